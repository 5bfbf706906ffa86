import Derived.Test.YtppbaladeefnkaaGreatDoorV16
set_option maxRecDepth 100000
set_option maxHeartbeats 400000000
namespace Go.Proofs.YtppbaladeefnkaaGreatDoor
open Go.RowKit Go.Shelf Go.Lib Tryz
theorem Hb {P:Program} (t e:TypeId) (size:Nat) (hu:P.underlying t=some (.slice e)) (hz:∀ w,(Go.sizeOf e).run P w=.ok size w) (a:Option Addr) (n cap k:Nat) (hk:k≤cap) (w:World):
  (Instr.slice t (.slice a n cap) none (some (.int .i64 (k:Int))) none).run P w=.ok (.slice (if cap=0 then a else a.map (·.add 0)) k cap) w:=by
 have h0:(0:Int)≤(k:Int):=by omega
 simp [Instr.slice,Instr.sliceBounds,Instr.sliceBound,asIntOf,run_underlying hu,h0,hz,hk,go_sem]
theorem Bw {P:Program} (t e:TypeId) (size:Nat) (hu:P.underlying t=some (.slice e)) (hz:∀ w,(Go.sizeOf e).run P w=.ok size w) (a:Option Addr) (n cap k:Nat) (hk:k≤n) (w:World):
  (Instr.slice t (.slice a n cap) (some (.int .i64 (k:Int))) none none).run P w=.ok (.slice (if cap=k then a else a.map (·.add (k*size))) (n - k) (cap - k)) w:=by
 have h0:(0:Int)≤(k:Int):=by omega
 simp [Instr.slice,Instr.sliceBounds,Instr.sliceBound,asIntOf,run_underlying hu,h0,hz,hk,go_sem]
theorem Mf (b off j:Nat):(⟨b,off,none⟩:Addr).add j=⟨b,off+j,none⟩:=by unfold Addr.add;split <;> simp_all
def CapV (v:Value) (n:Nat):Prop:=∃ p cap,v=.slice p n cap∧n≤cap
theorem Sl.empty {T:Type} (r:Rd T) (S:Nat→Prop) (w:World) (p:Option Addr) (c:Nat):Sl r S w (.slice p 0 c) []:=⟨p,c,rfl,by simp,fun h=>absurd rfl h⟩
theorem Xh {P:Program} {T:Type} {r:Rd T} (t e:TypeId) (hu:P.underlying t=some (.slice e)) (hz:∀ w,(Go.sizeOf e).run P w=.ok r.k w) {S:Nat→Prop} {w:World} {v:Value} {l:List T} (h:Sl r S w v l) (hc:CapV v l.length) (k:Nat) (hk:k≤l.length):
  ∃ V1 V2,(∀ W,(Instr.slice t v none (some (.int .i64 (k:Int))) none).run P W=.ok V1 W)∧(∀ W,(Instr.slice t v (some (.int .i64 (k:Int))) none none).run P W=.ok V2 W)∧Sl r S w V1 (l.take k)∧Sl r S w V2 (l.drop k):=by
 obtain ⟨p,cap,rfl,hcap⟩:=hc
 refine ⟨_,_,fun W=>Hb t e r.k hu hz p l.length cap k (by omega) W,fun W=>Bw t e r.k hu hz p l.length cap k hk W,?_,?_⟩
 ·by_cases hl:l=[]
  ·subst hl
   obtain rfl:k=0:=by simpa using hk
   exact Sl.empty r S w _ _
  obtain ⟨p',c',e1,_,h3⟩:=h
  obtain ⟨b,off,e2,_,_,_⟩:=h3 hl
  simp only [Value.slice.injEq] at e1
  obtain ⟨rfl,_,rfl⟩:=e1
  subst e2
  have h':Sl r S w (.slice (some ⟨b,off,none⟩) l.length cap) l:=⟨_,_,rfl,‹_›,h3⟩
  have:=h'.sub 0 k cap (by omega)
  rw [List.drop_zero,Nat.zero_mul,Nat.add_zero] at this
  have e3:(if cap=0 then some (⟨b,off,none⟩:Addr) else (some (⟨b,off,none⟩:Addr)).map (·.add 0))=some ⟨b,off,none⟩:=by
   split
   ·rfl
   simp [Mf]
  rw [e3];exact this
 by_cases hl:l=[]
 ·subst hl
  obtain rfl:k=0:=by simpa using hk
  exact Sl.empty r S w _ _
 obtain ⟨p',c',e1,_,h3⟩:=h
 obtain ⟨b,off,e2,_,_,_⟩:=h3 hl
 simp only [Value.slice.injEq] at e1
 obtain ⟨rfl,_,rfl⟩:=e1
 subst e2
 have h':Sl r S w (.slice (some ⟨b,off,none⟩) l.length cap) l:=⟨_,_,rfl,‹_›,h3⟩
 by_cases hkc:cap=k
 ·have hk2:k=l.length:=by omega
  rw [if_pos hkc,hk2,Nat.sub_self,List.drop_length]
  exact Sl.empty r S w _ _
 rw [if_neg hkc]
 have:=h'.sub k (l.length - k) (cap - k) (by omega)
 rw [List.take_of_length_le (by rw [List.length_drop];exact Q9 _)] at this
 simp only [Option.map_some,Mf]
 exact this
theorem Fy:∀ {l:List Val} {x:Val} {k:Nat} {y:Val},(∀ (j:Nat) (z:Val),j<k→l[j]?=some z→Z1 z x≤0)→l[k]?=some y→¬ Z1 y x≤0→Yy l x=k
 | [],_,_,_,_,hy,_=>by simp at hy
 | a::l,x,0,y,_,hy,hc=>by
  simp at hy;subst hy
  unfold Yy;rw [List.takeWhile_cons,if_neg (by simpa using hc)];rfl
 | a::l,x,k+1,y,h,hy,hc=>by
  have ha:=h 0 a (by omega) rfl
  have:=Fy (l:=l) (x:=x) (k:=k) (y:=y) (fun j z hj hz=>h (j+1) z (by omega) (by simpa using hz)) (by simpa using hy) hc
  unfold Yy at this ⊢
  rw [List.takeWhile_cons,if_pos (by simpa using ha),List.length_cons,this]
theorem B1:∀ {l:List Val} {x:Val},(∀ (j:Nat) (z:Val),l[j]?=some z→Z1 z x≤0)→Yy l x=l.length
 | [],_,_=>rfl
 | a::l,x,h=>by
  have ha:=h 0 a rfl
  have:=B1 (l:=l) (x:=x) (fun j z hz=>h (j+1) z (by simpa using hz))
  unfold Yy at this ⊢
  rw [List.takeWhile_cons,if_pos (by simpa using ha),List.length_cons,this,List.length_cons]
theorem Uk {S S':Nat→Prop} {a b:Val} {p3 k3 p4 k4 q3 l3 q4 l4} {wr:World} (ha:Qh S wr (vcs a p3 k3 p4 k4) a) (hb:Qh S' wr (vcs b q3 l3 q4 l4) b):∀ n os,Calls prog 17 #[.agg #[.int .i64 a.kind,.int .i64 a.n,.string ⟨a.s.toArray⟩,.slice p3 a.names.length k3,.slice p4 a.kids.length k4],.agg #[.int .i64 b.kind,.int .i64 b.n,.string ⟨b.s.toArray⟩,.slice q3 b.names.length l3,.slice q4 b.kids.length l4]] (Sort.grow (wr.drewN n) os) fun e w'=>e=.returned (.int .i64 (Z1 a b))∧Gr (Sort.grow (wr.drewN n) os) w':=
 fun _ _=>B6 S S' a b (vcs a p3 k3 p4 k4) (vcs b q3 l3 q4 l4) _ (ha.move (.of_below (Z7 _ _ _).bl) (fun _ _ h=>h)) (hb.move (.of_below (Z7 _ _ _).bl) (fun _ _ h=>h))
theorem Ll (S S':Nat→Prop) (v:Value) (l:List Val) (x:Val) (cx:List Value) (w:World) (hs:Sl Ql S w v l) (hx:Qh S' w cx x):
  Calls prog 104 #[v,.agg cx.toArray] w fun e w'=>e=.returned (.bool (Kx l x))∧Below w.heap.size w w':=by
 obtain ⟨p,cap,rfl,hl⟩:=hs.len
 obtain ⟨p3,k3,p4,k4,hcx,_⟩:=Qh.cells hx
 have HXV:=Qq hx
 simp only [vcs] at hcx
 subst hcx
 have HS:=Qq hs
 have mixed:prog.follows .mixedOrders=true:=by kernel_rfl
 obtain ⟨n,hn⟩:=eX (l.length)
 rw [hn] at HS hl ⊢
 have HN:=Qq hn
 obtain ⟨r,hr⟩:=eX (Kx l x)
 rw [hr]
 have HR:=Qq hr
 clear hr hn hs hx
 go_enter func104,ntmps104
 go_wp2_with fail
 generalize hW1:w.alloc _=W1
 have hb1:=eqB hW1 (Qn _ _)
 have hX1:=eqH (b:=w.heap.size) hW1 (Qw _ _)
 have HB1:=Qq hb1;have HX1:=Qq hX1
 clear hW1 hb1 hX1
 go_loopw [5] (fun i wr=>∃ k:Nat,k≤n∧i=.int .i64 k∧Aside (∀ (j:Nat) (y:Val),j<k→l[j]?=some y→eqv y x=false)∧Aside (Gr W1 wr)) (fun i _=>n - (intOf i).toNat)
 case atStart=>exact ⟨0,Q8 _,rfl,fun j _ hj=>absurd hj (Nat.not_lt_zero _),Gr.refl _⟩
 obtain ⟨k,hk,rfl,A,hG⟩:=hrel
 have HG:=Qq (show Gr W1 wr from hG)
 have HBw:=Qq (HB1.out.thn HG.out.bl)
 have HXr:=Qq (kB HG.out.bl HX1.out)
 clear hG
 by_cases hlt:k<n
 ·have hi1:(0:Int)≤(k:Int):=by omega
  have hi2:(k:Int)<(n:Int):=by omega
  obtain ⟨y,hy⟩:∃ y,l[k]?=some y:=⟨_,Qx (by rw [HN.out];exact hlt)⟩
  obtain ⟨b,off,q3,l3,q4,l4,rfl,hbl,hvy,d0,d1,d2,d3,d4⟩:=(HS.out.below HBw.out).val hy
  have hcg:=Uk hvy (HXV.out.move (.of_below HBw.out) (fun _ _ h=>h))
  have hxl:=Qf HXr.out
  have D0:=Qs hbl d0;have D1:=Qs hbl d1;have D2:=Qs hbl d2;have D3:=Qs hbl d3;have D4:=Qs hbl d4
  obtain ⟨x0,x1,x2,x3,x4⟩:=row5 HXr.out
  have X0:=Qs hxl x0;have X1:=Qs hxl x1;have X2:=Qs hxl x2;have X3:=Qs hxl x3;have X4:=Qs hxl x4
  have hce:=Hi y x
  generalize Z1 y x=c at hcg hce
  have HY:=Qq hy;have HCE:=Qq hce
  clear hy hvy d0 d1 d2 d3 d4 x0 x1 x2 x3 x4 hce
  by_cases hq:(c==0)=true
  ·have hr0:r=true:=by
    rw [← HR.out];unfold Kx
    exact List.any_eq_true.2 ⟨y,Qy HY.out,by rw [← HCE.out];exact hq⟩
   subst hr0
   go_wp2_with fail
   go_quiet_grown (first | (go_at_call 17;refine Calls.grown_of (hcg _ _)))
   go_wp2_with fail
   go_ret
   exact ⟨rfl,HBw.out.thn (Z7 _ _ _).bl⟩
  have hq':(c==0)=false:=by simpa using hq
  clear hq
  go_wp2_with fail
  go_quiet_grown (first | (go_at_call 17;refine Calls.grown_of (hcg _ _)))
  go_wp2_with fail
  go_roundw
  case measure=>simp [intOf];omega
  case rel=>
   refine ⟨k+1,by omega,by go_num,(show Aside _ from fun j z hj hz=>?_),HG.out.thn (Z7 _ _ _)⟩
   by_cases e:j=k
   ·subst e
    have:=HY.out
    rw [this] at hz
    cases hz
    rw [← HCE.out];exact hq'
   exact A.out j z (by omega) hz
 have hltz:¬ (k:Int)<(n:Int):=by omega
 have:k=n:=by omega
 subst this
 have hr0:r=false:=by
  rw [← HR.out];unfold Kx
  rw [List.any_eq_false]
  intro y hy
  obtain ⟨j,hj⟩:=List.getElem?_of_mem hy
  rw [A.out j y (by have:=(Qj hj).1;have:=HN.out;omega) hj]
  simp
 subst hr0
 go_wp2_with fail
 go_ret
 exact ⟨rfl,HBw.out⟩
def Lg (S:Nat→Prop) (w:World) (zs:List Val) (e:Ending) (w':World):Prop:=∃ p cap,e=.returned (.slice p zs.length cap)∧zs.length≤cap∧Sl Ql (fun b=>S b∨w.heap.size≤b) w' (.slice p zs.length cap) zs∧Below w.heap.size w w'
theorem Own.cap {T:Type} {r:Rd T} {E:TypeId} {S:Nat→Prop} {B:Nat} {w:World} {p:Option Addr} {n cap:Nat} {xs:List T} {css:List (List Value)} (h:Own r E S B w (.slice p n cap) xs css):xs.length=n∧n≤cap:=by
 rcases h.row.2 with ⟨e,h0⟩ | ⟨g,cap',cur,e,_,_,hc,_⟩
 ·simp only [Value.slice.injEq] at e
  obtain ⟨rfl,rfl,rfl⟩:=e
  exact ⟨h0,Q9 _⟩
 simp only [Value.slice.injEq] at e
 obtain ⟨rfl,rfl,rfl⟩:=e
 exact ⟨rfl,hc⟩
theorem put_any (S:Nat→Prop) (v:Value) (l:List Val) (x:Val) (cx:List Value) (w:World) (hs0:Sl Ql S w v l) (hcv:CapV v l.length) (hx0:Qh S w cx x) (hl1:l.length≤1000):
  Calls prog 60 #[v,.agg cx.toArray] w (Lg S w (Vc l x)):=by
 have hs:=hs0.up
 have hx:Qh (fun b=>S b∧b<w.heap.size) w cx x:=hx0.move (.refl _ _) (fun b hb h=>⟨h,hb⟩)
 clear hs0 hx0
 have HCV:=Qq hcv
 obtain ⟨p,cap,rfl,hcap⟩:=hcv
 obtain ⟨p3,k3,p4,k4,hcx,_⟩:=Qh.cells hx
 have HXV:=Qq hx
 have HHas:=Qq (fun W (hb:Below w.heap.size w W)=>Ll _ _ _ l x cx W (hs.below hb) (hx.move (.of_below hb) (fun _ _ h=>h)))
 simp only [vcs] at hcx
 subst hcx
 have HS:=Qq hs
 have mixed:prog.follows .mixedOrders=true:=by kernel_rfl
 obtain ⟨i0,j1,j2,j3,j4⟩:=Za (P:=prog) (t:=44) (z:=.agg zV) (n:=5) (b:=80) (by kernel_rfl)
 have HJ:=Qq j1;have HJ2:=Qq j2;have HJ3:=Qq j3;have HJ4:=Qq j4
 obtain ⟨n,hn⟩:=eX (l.length)
 have HN:=Qq hn
 rw [hn] at HS HCV hl1 hcap HHas ⊢
 obtain ⟨r,hr⟩:=eX (Kx l x)
 have HR:=Qq hr
 rw [hr] at HHas
 clear hr hn hs hx j1 j2 j3 j4
 go_enter func60,ntmps60
 go_wp2_with fail
 refine (HHas.out _ (Qn _ _)).mono ?_
 rintro e w1 ⟨rfl,hb1⟩
 have hX1:=(hb1.block w.heap.size (by simp)).trans (Qw _ _)
 have HB1:=Qq ((Qn w _).thn hb1);have HX1:=Qq hX1
 have hsz1:w.heap.size<w1.heap.size:=Qf hX1
 clear hb1 hX1 HHas
 cases r with
 | true=>
  go_wp2_with fail
  go_ret
  have hp:Vc l x=l:=by unfold Vc;rw [HR.out];rfl
  unfold Lg
  rw [hp,HN.out]
  exact ⟨p,cap,rfl,hcap,(HS.out.mono (fun b _ h=>.inl h.1)).below HB1.out,HB1.out⟩
 | false=>
  go_wp2_with fail
  go_loopw [6] (fun i wr=>∃ k:Nat,k≤n∧i=.int .i64 k∧Aside (∀ (j:Nat) (y:Val),j<k→l[j]?=some y→Z1 y x≤0)∧Aside (Gr w1 wr)) (fun i _=>n - (intOf i).toNat)
  case atStart=>exact ⟨0,Q8 _,rfl,fun j _ hj=>absurd hj (Nat.not_lt_zero _),Gr.refl _⟩
  obtain ⟨k,hk,rfl,A,hG⟩:=hrel
  have HG:=Qq (show Gr w1 wr from hG)
  have HBw:=Qq (HB1.out.thn HG.out.bl)
  have HXr:=Qq (kB HG.out.bl HX1.out)
  clear hG
  have hxl:=Qf HXr.out
  obtain ⟨x0,x1,x2,x3,x4⟩:=row5 HXr.out
  have X0:=Qs hxl x0;have X1:=Qs hxl x1;have X2:=Qs hxl x2;have X3:=Qs hxl x3;have X4:=Qs hxl x4
  clear x0 x1 x2 x3 x4
  have hgo:(∃ y,l[k]?=some y∧Z1 y x≤0)∨(Yy l x=k∧((∃ y,l[k]?=some y∧¬ Z1 y x≤0)∨k=n)):=by
   by_cases hlt:k<n
   ·obtain ⟨y,hy⟩:∃ y,l[k]?=some y:=⟨_,Qx (by rw [HN.out];exact hlt)⟩
    by_cases hc:Z1 y x≤0
    ·exact .inl ⟨y,hy,hc⟩
    exact .inr ⟨Fy A.out hy hc,.inl ⟨y,hy,hc⟩⟩
   have hkn:k=n:=by omega
   refine .inr ⟨?_,.inr hkn⟩
   rw [hkn,← HN.out]
   exact B1 (fun j z hz=>A.out j z (by have:=(Qj hz).1;have:=HN.out;omega) hz)
  rcases hgo with ⟨y,hy,hc⟩ | ⟨hpl,hgo⟩
  ·have hlt:k<n:=by have:=(Qj hy).1;have:=HN.out;omega
   have hi1:(0:Int)≤(k:Int):=by omega
   have hi2:(k:Int)<(n:Int):=by omega
   have hi3:decide (k<n)=true:=by simpa using hlt
   obtain ⟨b,off,q3,l3,q4,l4,rfl,hbl,hvy,d0,d1,d2,d3,d4⟩:=(HS.out.below HBw.out).val hy
   have hcg:=Uk hvy (HXV.out.move (.of_below HBw.out) (fun _ _ h=>h))
   have D0:=Qs hbl d0;have D1:=Qs hbl d1;have D2:=Qs hbl d2;have D3:=Qs hbl d3;have D4:=Qs hbl d4
   have HCc:=Qq hc
   have hq:decide (Z1 y x≤0)=true:=by simpa using hc
   generalize hgc:Z1 y x=c at hcg hq
   have HY:=Qq hy;have HGC:=Qq hgc
   clear hy hvy d0 d1 d2 d3 d4 hc hgc hlt
   go_wp2_with fail
   go_quiet_grown (first | (go_at_call 17;refine Calls.grown_of (hcg _ _)))
   go_wp2_with fail
   go_roundw
   case measure=>simp [intOf];omega
   case rel=>
    refine ⟨k+1,by omega,by go_num,(show Aside _ from fun j z hj hz=>?_),HG.out.thn (Z7 _ _ _)⟩
    by_cases e:j=k
    ·subst e
     have:=HY.out
     rw [this] at hz
     cases hz
     exact HCc.out
    exact A.out j z (by omega) hz
  obtain ⟨V1,V2,hv1,hv2,hS1,hS2⟩:=Xh (P:=prog) 40 44 underlying40 sizeOf44 HS.out (by rw [HN.out];exact HCV.out) k (by rw [HN.out];exact hk)
  have HS1:=Qq hS1;have HS2:=Qq hS2;have HPl:=Qq hpl
  clear hS1 hS2 hpl
  have hkl:k≤l.length:=by rw [HN.out];exact hk
  have htk:(l.take k).length=k:=by rw [List.length_take];omega
  have hdk:(l.drop k).length=n - k:=by rw [List.length_drop,HN.out]
  have HTK:=Qq htk;have HDK:=Qq hdk
  clear htk hdk hkl
  rcases hgo with ⟨y,hy,hc⟩ | hkn
  focus
   have hlt:k<n:=by have:=(Qj hy).1;have:=HN.out;omega
   have hi1:(0:Int)≤(k:Int):=by omega
   have hi2:(k:Int)<(n:Int):=by omega
   have hi3:decide (k<n)=true:=by simpa using hlt
   obtain ⟨b,off,q3,l3,q4,l4,rfl,hbl,hvy,d0,d1,d2,d3,d4⟩:=(HS.out.below HBw.out).val hy
   have hcg:=Uk hvy (HXV.out.move (.of_below HBw.out) (fun _ _ h=>h))
   have D0:=Qs hbl d0;have D1:=Qs hbl d1;have D2:=Qs hbl d2;have D3:=Qs hbl d3;have D4:=Qs hbl d4
   have hq:decide (Z1 y x≤0)=false:=by simpa using hc
   generalize hgc:Z1 y x=c at hcg hq
   clear hy hvy d0 d1 d2 d3 d4 hc hgc hlt
   go_wp2_with fail
   go_quiet_grown (first | (go_at_call 17;refine Calls.grown_of (hcg _ _)))
   clear D0 D1 D2 D3 D4 hcg hq hi1 hi2 hi3
  rotate_left
  focus
   have hi3:decide (k<n)=false:=by simp;omega
   clear hkn
   go_wp2_with fail
   go_quiet_grown (fail)
   clear hi3
  all_goals
   generalize hW3:Sort.grow (wr.drewN nq) osq=W3
   have hb3:Below wr.heap.size wr W3:=by rw [← hW3];exact (Z7 _ _ _).bl
   have HB3:=Qq (HBw.out.thn hb3);have HX3:=Qq (kE hb3 hxl HXr.out)
   have hsz3:w.heap.size<W3.heap.size:=Qf HX3.out
   have hA1:Sl Ql (But (fun b=>S b∧b<w.heap.size) (.slice none 0 0)) W3 V1 (l.take k):=(HS1.out.mono (S':=But (fun b=>S b∧b<w.heap.size) (.slice none 0 0)) (fun b _ h=>⟨h,fun e=>by cases e⟩)).below HB3.out
   have HA1:=Qq hA1
   have hn1:([]:List Val).length+(l.take k).length=k:=by rw [HTK.out];simp
   have HN1:=Qq hn1
   clear hW3 hb3 X0 X1 X2 X3 X4 hA1 hn1
   go_upto_region 9 with (at_builtin;refine Yq (r:=Ql) (by decide) Zu rfl (.tmp 28) (.tmp 31) _ rfl 44 i0 (.agg zV) 80 underlying40 HJ.out HJ2.out HJ3.out HJ4.out rfl (by omega) (fun b=>S b∧b<w.heap.size) (w.heap.size+1) W3 (.slice none 0 0) [] [] rfl (Own.nil _ _ _ _ _) V1 (l.take k) rfl HA1.out k HN1.out (by omega) (by omega) ?_;intro p4' c4' css4 w4 hO4 hL4)
   rw [List.nil_append] at hO4
   have hX4:=(hL4.other w.heap.size hsz3 (fun e=>by cases e)).trans HX3.out
   obtain ⟨x0,x1,x2,x3,x4⟩:=row5 hX4
   have hbw4:Below w.heap.size w w4:=HB3.out.trans (hL4.below.mono (by omega))
   have hsz4:=hL4.size
   have hVx4:Ql.R (But (fun b=>S b∧b<w.heap.size) (.slice p4' k c4')) w4 [.int .i64 x.kind,.int .i64 x.n,.string ⟨x.s.toArray⟩,.slice p3 x.names.length k3,.slice p4 x.kids.length k4] x:=Qh.move HXV.out (.of_below hbw4) (fun b hb h=>⟨h,fun e=>by have:=(hO4.row.lt b e.symm).1;omega⟩)
   have HO4:=Qq hO4;have HBw4:=Qq hbw4;have HVx4:=Qq hVx4
   clear hO4 hL4 hX4 hbw4 hVx4
   go_upto_region 10 with (at_builtin;refine Zm (r:=Ql) (by decide) rfl (.tmp 33) (.tmp 35) _ rfl 44 i0 (.agg zV) 80 underlying40 HJ.out HJ2.out HJ3.out HJ4.out rfl (by omega) (fun b=>S b∧b<w.heap.size) (w.heap.size+1) w4 (.slice p4' k c4') (l.take k) css4 [.int .i64 x.kind,.int .i64 x.n,.string ⟨x.s.toArray⟩,.slice p3 x.names.length k3,.slice p4 x.kids.length k4] x rfl HO4.out rfl HVx4.out (by simp [Value.oneCell']) k HTK.out (by omega) (by omega) ?_;intro p5' c5' css5 w5 hO5 hL5)
   have hbw5:Below w.heap.size w w5:=HBw4.out.trans (hL5.below.mono (by omega))
   have hsz5:=hL5.size
   have hA2:Sl Ql (But (fun b=>S b∧b<w.heap.size) (.slice p5' (k+1) c5')) w5 V2 (l.drop k):=(HS2.out.mono (S':=But (fun b=>S b∧b<w.heap.size) (.slice p5' (k+1) c5')) (fun b hb h=>⟨h,fun e=>by have:=(hO5.row.lt b e.symm).1;omega⟩)).below hbw5
   have hn2:(l.take k++[x]).length+(l.drop k).length=n+1:=by rw [List.length_append,HTK.out,HDK.out];simp;omega
   have HN2:=Qq hn2;have HA2:=Qq hA2;have HO5:=Qq hO5;have HBw5:=Qq hbw5
   clear x0 x1 x2 x3 x4 hO5 hL5 hbw5 hA2 hn2
   go_wp2_with (at_builtin;refine Yq (r:=Ql) (by decide) Zu rfl (.tmp 37) (.tmp 40) _ rfl 44 i0 (.agg zV) 80 underlying40 HJ.out HJ2.out HJ3.out HJ4.out rfl (by omega) (fun b=>S b∧b<w.heap.size) (w.heap.size+1) w5 (.slice p5' (k+1) c5') (l.take k++[x]) css5 rfl HO5.out V2 (l.drop k) rfl HA2.out (n+1) HN2.out (by omega) (by omega) ?_;intro p6' c6' css6 w6 hO6 hL6;have HO6:=Qq hO6;have HL6:=Qq hL6;clear hO6 hL6)
   go_ret
   have hp:Vc l x=(l.take k++[x])++l.drop k:=by unfold Vc;rw [HR.out,HPl.out];simp
   have hlen:(Vc l x).length=n+1:=by rw [hp,List.length_append];exact HN2.out
   unfold Lg
   rw [hlen,hp]
   refine ⟨p6',c6',rfl,HO6.out.cap.2,?_,HBw5.out.trans (HL6.out.below.mono (by omega))⟩
   exact HO6.out.sl (by rw [List.length_append,HN2.out];omega) (fun b hb=>.inr (by omega)) (fun b _ h=>.inl h.1)
theorem Kw:∀ {l:List Bs} {x:Bs} {k:Nat} {y:Bs},(∀ (j:Nat) (z:Bs),j<k→l[j]?=some z→Zg z x<0)→l[k]?=some y→¬ Zg y x<0→below l x=k
 | [],_,_,_,_,hy,_=>by simp at hy
 | a::l,x,0,y,_,hy,hc=>by
  simp at hy;subst hy
  unfold below;rw [List.takeWhile_cons,if_neg (by simpa using hc)];rfl
 | a::l,x,k+1,y,h,hy,hc=>by
  have ha:=h 0 a (by omega) rfl
  have:=Kw (l:=l) (x:=x) (k:=k) (y:=y) (fun j z hj hz=>h (j+1) z (by omega) (by simpa using hz)) (by simpa using hy) hc
  unfold below at this ⊢
  rw [List.takeWhile_cons,if_pos (by simpa using ha),List.length_cons,this]
theorem Dg:∀ {l:List Bs} {x:Bs},(∀ (j:Nat) (z:Bs),l[j]?=some z→Zg z x<0)→below l x=l.length
 | [],_,_=>rfl
 | a::l,x,h=>by
  have ha:=h 0 a rfl
  have:=Dg (l:=l) (x:=x) (fun j z hz=>h (j+1) z (by simpa using hz))
  unfold below at this ⊢
  rw [List.takeWhile_cons,if_pos (by simpa using ha),List.length_cons,this,List.length_cons]
theorem My (l:List Bs) (x:Bs):below l x≤l.length:=by unfold below;exact (List.takeWhile_sublist _).length_le
theorem V0 {w w':World} {B:Nat} {e:TypeId} {sz n:Nat} {v:Value} {xs:List Value} (h:w.ownsRow B e sz v n xs) (hA:∀ b,b<w.heap.size→v.ownBlock=some b→w'.heap[b]?=w.heap[b]?):w'.ownsRow B e sz v n xs:=by
 refine ⟨h.1,?_⟩
 rcases h.2 with hn | ⟨g,cap,cur,rfl,hB,hg,rest⟩
 ·exact .inl hn
 refine .inr ⟨g,cap,cur,rfl,hB,?_,rest⟩
 rw [hA g (Array.getElem?_eq_some_iff.1 hg).1 rfl];exact hg
theorem vcs_mk (k n:Int) (s:Bs) (ns:List Bs) (ks:List Val) (p3:Option Addr) (k3:Nat) (p4:Option Addr) (k4:Nat):vcs (.mk k n s ns ks) p3 k3 p4 k4=[.int .i64 k,.int .i64 n,.string ⟨s.toArray⟩,.slice p3 ns.length k3,.slice p4 ks.length k4]:=rfl
def Bf (v:Val) (name:Bs) (x:Val):Val:=.mk v.kind v.n v.s (Y8 v.names (below v.names name) name) (Y8 v.kids (below v.names name) x)
def NewRec (S:Nat→Prop) (w:World) (u:Val) (e:Ending) (w':World):Prop:=∃ p3 k3 p4 k4,e=.returned (.agg (vcs u p3 k3 p4 k4).toArray)∧u.names.length≤k3∧u.kids.length≤k4∧Qh (fun b=>S b∨w.heap.size≤b) w' (vcs u p3 k3 p4 k4) u∧Below w.heap.size w w'
theorem rins_any (S:Nat→Prop) (v x:Val) (name:Bs) (p3:Option Addr) (k3:Nat) (p4:Option Addr) (k4:Nat) (cx:List Value) (w:World) (hv0:Qh S w (vcs v p3 k3 p4 k4) v) (hx0:Qh S w cx x) (hc3:v.names.length≤k3) (hc4:v.kids.length≤k4) (hlen:v.names.length=v.kids.length) (hl1:v.names.length≤1000) (hnm:name.length≤1000000):
  Calls prog 116 #[.agg (vcs v p3 k3 p4 k4).toArray,sv name,.agg cx.toArray] w (NewRec S w (Bf v name x)):=by
 have hv:Qh (fun b=>S b∧b<w.heap.size) w (vcs v p3 k3 p4 k4) v:=hv0.move (.refl _ _) (fun b hb h=>⟨h,hb⟩)
 have hx:Qh (fun b=>S b∧b<w.heap.size) w cx x:=hx0.move (.refl _ _) (fun b hb h=>⟨h,hb⟩)
 clear hv0 hx0
 obtain ⟨q3,l3,q4,l4,hcx,_⟩:=Qh.cells hx
 have HXV:=Qq hx
 simp only [vcs] at hcx
 subst hcx
 obtain ⟨_,_,_,_,hvc,hnv,hkv,hsl⟩:=Qh.cells hv
 simp only [vcs,List.cons.injEq,Value.slice.injEq,true_and,and_true] at hvc
 obtain ⟨⟨rfl,rfl⟩,rfl,rfl⟩:=hvc
 obtain ⟨n,hn⟩:=eX (v.names.length)
 have hm:v.kids.length=n:=by omega
 have hk0:below v.names name≤n:=by rw [← hn];exact My _ _
 unfold vcs
 rw [hn] at hnv hc3 hl1 ⊢
 rw [hm] at hkv hc4 ⊢
 have HNv:=Qq hnv;have HKv:=Qq hkv;have HN:=Qq hn;have HM:=Qq hm
 clear hx hv hnv hkv hn hm hlen
 obtain ⟨i0,j1,j2,j3,j4⟩:=Za (P:=prog) (t:=44) (z:=.agg zV) (n:=5) (b:=80) (by kernel_rfl)
 have HJ:=Qq j1;have HJ2:=Qq j2;have HJ3:=Qq j3;have HJ4:=Qq j4
 clear j1 j2 j3 j4
 obtain ⟨i9,j1,j2,j3,j4⟩:=Za (P:=prog) (t:=9) (z:=.string ⟨#[]⟩) (n:=1) (b:=16) (by kernel_rfl)
 have HS:=Qq j1;have HS2':=Qq j2;have HS3':=Qq j3;have HS4':=Qq j4
 clear j1 j2 j3 j4
 unfold sv
 go_enter func116,ntmps116
 go_wp2_with fail
 generalize hW1:((w.alloc _).alloc _).alloc _=W1
 have hb1:=eqB hW1 (Xr _ _ _ _)
 have hV1:=eqH (b:=w.heap.size) hW1 (Zd _ _ _ _)
 have hX1:=eqH (b:=w.heap.size+1) hW1 (Z9 _ _ _ _)
 have hR1:=eqH (b:=w.heap.size+1+1) hW1 (Zw _ _ _ _)
 have HB1:=Qq hb1;have HV1:=Qq hV1;have HX1:=Qq hX1;have HR1:=Qq hR1
 have hsz1:w.heap.size+2<W1.heap.size:=Qf hR1
 obtain ⟨c0,c1,c2,c3,c4⟩:=row5 hV1
 clear hW1 hb1 hV1 hX1 hR1
 go_loop [7] (fun i=>∃ k:Nat,k≤n∧i=.int .i64 k∧Aside (∀ (j:Nat) (y:Bs),j<k→v.names[j]?=some y→Zg y name<0)) (fun i=>n - (intOf i).toNat)
 case atStart=>exact ⟨0,Q8 _,rfl,fun j _ hj=>absurd hj (Nat.not_lt_zero _)⟩
 obtain ⟨k,hk,rfl,A⟩:=hrel
 have hgo:(∃ y,v.names[k]?=some y∧Zg y name<0)∨(below v.names name=k∧((∃ y,v.names[k]?=some y∧¬ Zg y name<0)∨k=n)):=by
  by_cases hlt:k<n
  ·obtain ⟨y,hy⟩:∃ y,v.names[k]?=some y:=⟨_,Qx (by rw [HN.out];exact hlt)⟩
   by_cases hc:Zg y name<0
   ·exact .inl ⟨y,hy,hc⟩
   exact .inr ⟨Kw A.out hy hc,.inl ⟨y,hy,hc⟩⟩
  have hkn:k=n:=by omega
  refine .inr ⟨?_,.inr hkn⟩
  rw [hkn,← HN.out]
  exact Dg (fun j z hz=>A.out j z (by have:=(Qj hz).1;have:=HN.out;omega) hz)
 rcases hgo with ⟨y,hy,hc⟩ | ⟨hpl,hgo⟩
 ·have hlt:k<n:=by have:=(Qj hy).1;have:=HN.out;omega
  have hi1:(0:Int)≤(k:Int):=by omega
  have hi2:(k:Int)<(n:Int):=by omega
  have hi3:decide (k<n)=true:=by simpa using hlt
  obtain ⟨b,off,rfl,hyc,-⟩:=(HNv.out.below HB1.out).str hy
  have hq:Op.bytesLess y name=true:=by rw [(Xj y name).1];simpa using hc
  have HC:=Qq hc;have HY:=Qq hy
  clear hc hy hlt
  go_wp2_with fail
  go_round
  case measure=>simp [intOf];omega
  case rel=>
   refine ⟨k+1,by omega,by go_num,(show Aside _ from fun j z hj hz=>?_)⟩
   by_cases e:j=k
   ·subst e
    have:=HY.out
    rw [this] at hz
    cases hz
    exact HC.out
   exact A.out j z (by omega) hz
 obtain ⟨V1,V2,hv1,hv2,hS1,hS2⟩:=Xh (P:=prog) 30 9 underlying30 sizeOf9 HNv.out (by rw [HN.out];exact ⟨_,_,rfl,hc3⟩) k (by rw [HN.out];exact hk)
 obtain ⟨V3,V4,hv3,hv4,hS3,hS4⟩:=Xh (P:=prog) 40 44 underlying40 sizeOf44 HKv.out (by rw [HM.out];exact ⟨_,_,rfl,hc4⟩) k (by rw [HM.out];exact hk)
 have HS1:=Qq hS1;have HS2:=Qq hS2;have HS3:=Qq hS3;have HS4:=Qq hS4;have HPl:=Qq hpl
 have htk:(v.names.take k).length=k:=by rw [List.length_take,HN.out];omega
 have hdk:(v.names.drop k).length=n - k:=by rw [List.length_drop,HN.out]
 have htk2:(v.kids.take k).length=k:=by rw [List.length_take,HM.out];omega
 have hdk2:(v.kids.drop k).length=n - k:=by rw [List.length_drop,HM.out]
 have HTK:=Qq htk;have HDK:=Qq hdk;have HTK2:=Qq htk2;have HDK2:=Qq hdk2
 clear hS1 hS2 hS3 hS4 hpl htk hdk htk2 hdk2 A
 rcases hgo with ⟨y,hy,hc⟩ | hkn
 focus
  have hlt:k<n:=by have:=(Qj hy).1;have:=HN.out;omega
  have hi1:(0:Int)≤(k:Int):=by omega
  have hi2:(k:Int)<(n:Int):=by omega
  have hi3:decide (k<n)=true:=by simpa using hlt
  obtain ⟨b,off,rfl,hyc,-⟩:=(HNv.out.below HB1.out).str hy
  have hq:Op.bytesLess y name=false:=by rw [(Xj y name).1];simpa using hc
  clear hc hy hlt
  go_upto_region 5 with fail
  clear hq hyc hi1 hi2 hi3
 rotate_left
 focus
  have hi3:decide (k<n)=false:=by simp;omega
  clear hkn
  go_upto_region 5 with fail
  clear hi3
 all_goals
  have hA1:Sl Qp (But (fun _=>True) (.slice none 0 0)) W1 V1 (v.names.take k):=(HS1.out.mono (S':=But (fun _=>True) (.slice none 0 0)) (fun b _ h=>⟨trivial,fun e=>by cases e⟩)).below HB1.out
  have HA1:=Qq hA1
  have hn1:([]:List Bs).length+(v.names.take k).length=k:=by rw [HTK.out];simp
  have HN1:=Qq hn1
  clear hA1 hn1
  go_upto_region 6 with (at_builtin;refine Yq (r:=Qp) (by decide) Xd rfl (.tmp 26) (.tmp 30) _ rfl 9 i9 (.string ⟨#[]⟩) 16 underlying30 HS.out HS2'.out HS3'.out HS4'.out rfl (by omega) (fun _=>True) (w.heap.size+3) W1 (.slice none 0 0) [] [] rfl (Own.nil _ _ _ _ _) V1 (v.names.take k) rfl HA1.out k HN1.out (by omega) (by omega) ?_;intro pa ca cssa wa hOa hLa;have HOa:=Qq hOa;have HLa:=Qq hLa;clear hOa hLa)
  rw [List.nil_append] at HOa
  have hVa:=kE HLa.out.below (by omega) HV1.out;have hXa:=kE HLa.out.below (by omega) HX1.out;have hRa:=kE HLa.out.below (by omega) HR1.out
  have HVa:=Qq hVa;have HXa:=Qq hXa;have HRa:=Qq hRa
  have hsza:=HLa.out.size
  clear hVa hXa hRa
  have hbb:Qp.R (But (fun _=>True) (.slice pa k ca)) wa [.string ⟨name.toArray⟩] name:=⟨rfl,hnm⟩
  have HRb0:=Qq hbb
  clear hbb
  go_upto_region 7 with (at_builtin;refine Zm (r:=Qp) (by decide) rfl (.tmp 32) (.tmp 34) _ rfl 9 i9 (.string ⟨#[]⟩) 16 underlying30 HS.out HS2'.out HS3'.out HS4'.out rfl (by omega) (fun _=>True) (w.heap.size+3) wa (.slice pa k ca) (v.names.take k) cssa [.string ⟨name.toArray⟩] name rfl HOa.out rfl HRb0.out (by simp [Value.oneCell']) k HTK.out (by omega) (by omega) ?_;intro pb cb cssb wb hOb hLb;have HOb:=Qq hOb;have HLb:=Qq hLb;clear hOb hLb)
  have hVb:=kE HLb.out.below (by omega) HVa.out;have hXb:=kE HLb.out.below (by omega) HXa.out;have hRb:=kE HLb.out.below (by omega) HRa.out
  have HVb:=Qq hVb;have HXb:=Qq hXb;have HRb:=Qq hRb
  have hszb:=HLb.out.size
  have hbwb:Below w.heap.size w wb:=(HB1.out.trans (HLa.out.below.mono (by omega))).trans (HLb.out.below.mono (by omega))
  have hA2:Sl Qp (But (fun _=>True) (.slice pb (k+1) cb)) wb V2 (v.names.drop k):=(HS2.out.mono (S':=But (fun _=>True) (.slice pb (k+1) cb)) (fun b hb _=>⟨trivial,fun e=>by have:=(HOb.out.row.lt b e.symm).1;omega⟩)).below hbwb
  have hn2:(v.names.take k++[name]).length+(v.names.drop k).length=n+1:=by rw [List.length_append,HTK.out,HDK.out];simp;omega
  have c3:=Qk _ _ 3 _ _ _ hVb;have f3:=fA 3 hVb
  simp only [List.getElem?_toArray,List.getElem?_cons_zero,List.getElem?_cons_succ] at c3
  have HA2:=Qq hA2;have HN2:=Qq hn2;have HBwb:=Qq hbwb
  clear hVb hXb hRb hA2 hn2 hbwb
  go_upto_region 8 with (at_builtin;refine Yq (r:=Qp) (by decide) Xd rfl (.tmp 36) (.tmp 40) _ rfl 9 i9 (.string ⟨#[]⟩) 16 underlying30 HS.out HS2'.out HS3'.out HS4'.out rfl (by omega) (fun _=>True) (w.heap.size+3) wb (.slice pb (k+1) cb) (v.names.take k++[name]) cssb rfl HOb.out V2 (v.names.drop k) rfl HA2.out (n+1) HN2.out (by omega) (by omega) ?_;intro pc cc cssc wc hOc hLc;have hVc:=kE hLc.below (by omega) HVb.out;have fc3:=fA 3 hVc;have cc3:=rA3 hVc;have HOc:=Qq hOc;have HLc:=Qq hLc;have HVc:=Qq hVc;clear hOc hLc hVc)
  obtain ⟨W7,hW7⟩:=eX (wc.setCell ⟨w.heap.size,3,none⟩ (.slice pc (n+1) cc))
  rw [hW7]
  have hV7:W7.heap[w.heap.size]?=some (.cells #[.int .i64 v.kind,.int .i64 v.n,.string ⟨v.s.toArray⟩,.slice pc (n+1) cc,.slice p4 n k4] 44 (0,0)):=by rw [← hW7,heap_setCell_same _ _ _ _ _ _ HVc.out];rfl
  have ho7:∀ b,b≠w.heap.size→W7.heap[b]?=wc.heap[b]?:=fun b hb=>by rw [← hW7];exact Qg hb
  have hX7:=(ho7 (w.heap.size+1) (by omega)).trans (kE HLc.out.below (by omega) HXb.out)
  have hR7:=(ho7 (w.heap.size+1+1) (by omega)).trans (kE HLc.out.below (by omega) HRb.out)
  have hs7:W7.heap.size=wc.heap.size:=by rw [← hW7];simp [World.setCell]
  have hbw7:Below w.heap.size w W7:=by rw [← hW7];exact (HBwb.out.trans (HLc.out.below.mono (by omega))).setCell (p:=⟨w.heap.size,3,none⟩) (Q9 _) _
  have hON7:Own Qp 9 (fun _=>True) (w.heap.size+3) W7 (.slice pc (n+1) cc) (v.names.take k++[name]++v.names.drop k) cssc:=⟨X7 HOc.out.row (Q9 _) (fun b hb _=>ho7 b (by omega)),⟨HOc.out.cs.len,fun i c x hc hx=>HOc.out.cs.R i c x hc hx⟩⟩
  have hszc:=HLc.out.size
  have HV7:=Qq hV7;have HX7:=Qq hX7;have HR7:=Qq hR7;have HBw7:=Qq hbw7;have HON7:=Qq hON7
  have c4:=rA4 hV7
  have hA3:Sl Ql (But (fun b=>S b∧b<w.heap.size) (.slice none 0 0)) W7 V3 (v.kids.take k):=(HS3.out.mono (S':=But (fun b=>S b∧b<w.heap.size) (.slice none 0 0)) (fun b _ h=>⟨h,fun e=>by cases e⟩)).below hbw7
  have hn3:([]:List Val).length+(v.kids.take k).length=k:=by rw [HTK2.out];simp
  have HA3:=Qq hA3;have HN3:=Qq hn3
  clear hW7 hV7 ho7 hX7 hR7 hbw7 hON7 hA3 hn3 c3 f3 cc3 fc3
  go_upto_region 10 with (at_builtin;refine Yq (r:=Ql) (by decide) Zu rfl (.tmp 43) (.tmp 47) _ rfl 44 i0 (.agg zV) 80 underlying40 HJ.out HJ2.out HJ3.out HJ4.out rfl (by omega) (fun b=>S b∧b<w.heap.size) (w.heap.size+3) W7 (.slice none 0 0) [] [] rfl (Own.nil _ _ _ _ _) V3 (v.kids.take k) rfl HA3.out k HN3.out (by omega) (by omega) ?_;intro pd cd cssd wd hOd hLd;have HOd:=Qq hOd;have HLd:=Qq hLd;clear hOd hLd)
  rw [List.nil_append] at HOd
  have hVd:=kE HLd.out.below (by omega) HV7.out;have hXd:=kE HLd.out.below (by omega) HX7.out;have hRd:=kE HLd.out.below (by omega) HR7.out
  have HVd:=Qq hVd;have HXd:=Qq hXd;have HRd:=Qq hRd
  have hszd:=HLd.out.size
  have hONd:Own Qp 9 (fun _=>True) (w.heap.size+3) wd (.slice pc (n+1) cc) (v.names.take k++[name]++v.names.drop k) cssc:=⟨X7 HON7.out.row (Q9 _) (fun b _ hlt=>HLd.out.other b hlt (fun e=>by cases e)),⟨HON7.out.cs.len,fun i c x hc hx=>HON7.out.cs.R i c x hc hx⟩⟩
  have hbwd:Below w.heap.size w wd:=HBw7.out.trans (HLd.out.below.mono (by omega))
  have hVxd:Ql.R (But (fun b=>S b∧b<w.heap.size) (.slice pd k cd)) wd [.int .i64 x.kind,.int .i64 x.n,.string ⟨x.s.toArray⟩,.slice q3 x.names.length l3,.slice q4 x.kids.length l4] x:=Qh.move HXV.out (.of_below hbwd) (fun b hb h=>⟨h,fun e=>by have:=(HOd.out.row.lt b e.symm).1;omega⟩)
  obtain ⟨x0,x1,x2,x3,x4⟩:=row5 hXd
  have HONd:=Qq hONd;have HBwd:=Qq hbwd;have HVxd:=Qq hVxd
  clear hVd hXd hRd hONd hbwd hVxd c4
  go_upto_region 11 with (at_builtin;refine Zm (r:=Ql) (by decide) rfl (.tmp 49) (.tmp 51) _ rfl 44 i0 (.agg zV) 80 underlying40 HJ.out HJ2.out HJ3.out HJ4.out rfl (by omega) (fun b=>S b∧b<w.heap.size) (w.heap.size+3) wd (.slice pd k cd) (v.kids.take k) cssd [.int .i64 x.kind,.int .i64 x.n,.string ⟨x.s.toArray⟩,.slice q3 x.names.length l3,.slice q4 x.kids.length l4] x rfl HOd.out rfl HVxd.out (by simp [Value.oneCell']) k HTK2.out (by omega) (by omega) ?_;intro pe ce csse we hOe hLe;have HOe:=Qq hOe;have HLe:=Qq hLe;clear hOe hLe)
  have hVe:=kE HLe.out.below (by omega) HVd.out;have hXe:=kE HLe.out.below (by omega) HXd.out;have hRe:=kE HLe.out.below (by omega) HRd.out
  have HVe:=Qq hVe;have HXe:=Qq hXe;have HRe:=Qq hRe
  have hsze:=HLe.out.size
  have hONe:Own Qp 9 (fun _=>True) (w.heap.size+3) we (.slice pc (n+1) cc) (v.names.take k++[name]++v.names.drop k) cssc:=⟨V0 HONd.out.row (fun b hlt hbq=>HLe.out.other b hlt (fun e=>Zs HOd.out.row HONd.out.row (by decide) e.symm hbq)),⟨HONd.out.cs.len,fun i c x hc hx=>HONd.out.cs.R i c x hc hx⟩⟩
  have hbwe:Below w.heap.size w we:=HBwd.out.trans (HLe.out.below.mono (by omega))
  have hA4:Sl Ql (But (fun b=>S b∧b<w.heap.size) (.slice pe (k+1) ce)) we V4 (v.kids.drop k):=(HS4.out.mono (S':=But (fun b=>S b∧b<w.heap.size) (.slice pe (k+1) ce)) (fun b hb h=>⟨h,fun e=>by have:=(HOe.out.row.lt b e.symm).1;omega⟩)).below hbwe
  have hn4:(v.kids.take k++[x]).length+(v.kids.drop k).length=n+1:=by rw [List.length_append,HTK2.out,HDK2.out];simp;omega
  have c4:=rA4 hVe
  have HONe:=Qq hONe;have HBwe:=Qq hbwe;have HA4:=Qq hA4;have HN4:=Qq hn4
  clear hVe hXe hRe hONe hbwe hA4 hn4 x0 x1 x2 x3 x4
  go_upto_region 12 with (at_builtin;refine Yq (r:=Ql) (by decide) Zu rfl (.tmp 53) (.tmp 57) _ rfl 44 i0 (.agg zV) 80 underlying40 HJ.out HJ2.out HJ3.out HJ4.out rfl (by omega) (fun b=>S b∧b<w.heap.size) (w.heap.size+3) we (.slice pe (k+1) ce) (v.kids.take k++[x]) csse rfl HOe.out V4 (v.kids.drop k) rfl HA4.out (n+1) HN4.out (by omega) (by omega) ?_;intro pf cf cssf wf hOf hLf;have hVf:=kE hLf.below (by omega) HVe.out;have ff4:=fA 4 hVf;have cf4:=rA4 hVf;have HOf:=Qq hOf;have HLf:=Qq hLf;have HVf:=Qq hVf;clear hOf hLf hVf)
  obtain ⟨W8,hW8⟩:=eX (wf.setCell ⟨w.heap.size,4,none⟩ (.slice pf (n+1) cf))
  rw [hW8]
  have hV8:W8.heap[w.heap.size]?=some (.cells #[.int .i64 v.kind,.int .i64 v.n,.string ⟨v.s.toArray⟩,.slice pc (n+1) cc,.slice pf (n+1) cf] 44 (0,0)):=by rw [← hW8,heap_setCell_same _ _ _ _ _ _ HVf.out];rfl
  have ho8:∀ b,b≠w.heap.size→W8.heap[b]?=wf.heap[b]?:=fun b hb=>by rw [← hW8];exact Qg hb
  have hR8:=(ho8 (w.heap.size+1+1) (by omega)).trans (kE HLf.out.below (by omega) HRe.out)
  have hbw8:Below w.heap.size w W8:=by rw [← hW8];exact (HBwe.out.trans (HLf.out.below.mono (by omega))).setCell (p:=⟨w.heap.size,4,none⟩) (Q9 _) _
  have hON8:Own Qp 9 (fun _=>False) (w.heap.size+3) W8 (.slice pc (n+1) cc) (v.names.take k++[name]++v.names.drop k) cssc:=⟨V0 HONe.out.row (fun b hlt hbq=>(ho8 b (by have:=(HONe.out.row.lt b hbq).1;omega)).trans (HLf.out.other b hlt (fun e=>Zs HOe.out.row HONe.out.row (by decide) e.symm hbq))),⟨HONe.out.cs.len,fun i c x hc hx=>HONe.out.cs.R i c x hc hx⟩⟩
  have hOK8:Own Ql 44 (fun b=>S b∧b<w.heap.size) (w.heap.size+3) W8 (.slice pf (n+1) cf) (v.kids.take k++[x]++v.kids.drop k) cssf:=HOf.out.move (Q9 _) (fun b _ h=>ho8 b (by
   rcases h with h | h
   ·have:=h.2;omega
   have:=(HOf.out.row.lt b h).1;omega))
  have HR8:=Qq hR8;have HBw8:=Qq hbw8;have HON8:=Qq hON8;have HOK8:=Qq hOK8
  obtain ⟨e0,e1,e2,e3,e4⟩:=row5 hV8
  obtain ⟨r0,r1,r2,r3,r4⟩:=row5 hR8
  obtain ⟨f0,f1,f2,f3,f4⟩:=frz5 hR8
  clear hW8 hV8 ho8 hR8 hbw8 hON8 hOK8 c4 cf4 ff4
  go_wp2_with fail
  have hu:Bf v name x=.mk v.kind v.n v.s (v.names.take k++[name]++v.names.drop k) (v.kids.take k++[x]++v.kids.drop k):=by
   unfold Bf Y8;rw [HPl.out];simp
  have hl1':(v.names.take k++[name]++v.names.drop k).length=n+1:=by rw [List.length_append];have:=HN2.out;exact this
  have hl2':(v.kids.take k++[x]++v.kids.drop k).length=n+1:=by rw [List.length_append];exact HN4.out
  have hcells:vcs (Bf v name x) pc cc pf cf=[.int .i64 v.kind,.int .i64 v.n,.string ⟨v.s.toArray⟩,.slice pc (n+1) cc,.slice pf (n+1) cf]:=by rw [hu,vcs_mk,hl1',hl2']
  show bodyPost _ _ _ _ _ (Zz W8 (w.heap.size+1+1) (.int .i64 v.kind) (.int .i64 v.n) (.string ⟨v.s.toArray⟩) (.slice pc (n+1) cc) (.slice pf (n+1) cf))
  refine Q7 (v:=.agg #[.int .i64 v.kind,.int .i64 v.n,.string ⟨v.s.toArray⟩,.slice pc (n+1) cc,.slice pf (n+1) cf]) (by simp [results,results116,go_sem,Qm HR8.out]) rfl ⟨pc,cc,pf,cf,by rw [hcells],?_,?_,?_,Qo HBw8.out (by omega)⟩
  ·rw [hu];show (v.names.take k++[name]++v.names.drop k).length≤cc;rw [hl1'];exact HON8.out.cap.2
  ·rw [hu];show (v.kids.take k++[x]++v.kids.drop k).length≤cf;rw [hl2'];exact HOK8.out.cap.2
  rw [hcells,hu]
  refine Zn hsl ?_ ?_
  ·exact ((HON8.out.sl (S':=fun b=>w.heap.size+3≤b) (by rw [hl1'];omega) (fun b hb=>hb) (fun b _ h=>h.elim)).frame (fun b hb _=>Qu (by have:w.heap.size+3≤b:=hb;omega))).mono (fun b _ hb=>.inr (by have:w.heap.size+3≤b:=hb;omega))
  refine ((HOK8.out.sl (S':=fun b=>(S b∧b<w.heap.size)∨w.heap.size+3≤b) (by rw [hl2'];omega) (fun b hb=>.inr hb) (fun b _ hb=>.inl hb)).frame (fun b hb _=>Qu (by omega))).mono (fun b _ hb=>?_)
  rcases hb with h | h
  ·exact .inl h.1
  exact .inr (by omega)
end Go.Proofs.YtppbaladeefnkaaGreatDoor
