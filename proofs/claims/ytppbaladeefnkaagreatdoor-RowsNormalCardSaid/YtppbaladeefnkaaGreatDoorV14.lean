import Derived.Test.YtppbaladeefnkaaGreatDoorV13
set_option maxRecDepth 100000
set_option maxHeartbeats 400000000
namespace Go.Proofs.YtppbaladeefnkaaGreatDoor
open Go.RowKit Go.Shelf Go.Lib Tryz
def V5 (v:Val) (x:Bs):Int:=if Yb v (Ye v x) then Ye v x else -1
theorem Bc (S:Nat→Prop) (v:Val) (cs:List Value) (x:Bs) (w:World) (h:Qh S w cs v):
  Calls prog 73 #[.agg cs.toArray,sv x] w fun e w'=>e=.returned (.int .i64 (V5 v x))∧Below w.heap.size w w':=by
 obtain ⟨p3,k3,p4,k4,hcs,hn,hk,_⟩:=Qh.cells h
 simp only [vcs] at hcs
 subst hcs
 have hl:v.kids.length≤1000000:=by obtain ⟨_,_,_,h⟩:=hk.len;exact h
 obtain ⟨_,_,_,hln⟩:=hn.len
 obtain ⟨r,hr⟩:=eX (V5 v x)
 rw [hr]
 by_cases h4:v.kind=4
 ·have hq:(v.kind != 4)=false:=by rw [h4];rfl
  have HS:=Qq (hn.below (Qn w (.cells #[.int .i64 4,.int .i64 v.n,.string ⟨v.s.toArray⟩,.slice p3 v.names.length k3,.slice p4 v.kids.length k4] 44)))
  have HR:=Qq hr
  have H4:=Qq h4
  rw [h4]
  clear h hn hk hr h4 hq
  obtain ⟨n,hnn⟩:=eX (v.names.length)
  rw [hnn] at HS hln ⊢
  have HN:=Qq hnn
  clear hnn
  unfold sv
  go_enter func73,ntmps73
  go_wp2_with fail
  go_loop [5] (fun i=>∃ k:Nat,k≤n∧i=.int .i64 k∧Aside (∀ (j:Nat) (y:Bs),j<k→v.names[j]?=some y→decide (y=x)=false)) (fun i=>n - (intOf i).toNat)
  case atStart=>exact ⟨0,Q8 _,rfl,fun j _ hj=>absurd hj (Nat.not_lt_zero _)⟩
  obtain ⟨k,hk,rfl,A⟩:=hrel
  by_cases hlt:k<n
  ·have hi1:(0:Int)≤(k:Int):=by omega
   have hi2:(k:Int)<(n:Int):=by omega
   obtain ⟨y,hy⟩:∃ y,v.names[k]?=some y:=⟨_,Qx (by rw [HN.out];exact hlt)⟩
   obtain ⟨b,off,rfl,hc,-⟩:=HS.out.str hy
   have HY:=Qq hy
   clear hy
   by_cases he:y=x
   ·have hq:(y==x)=true:=by rw [he];simp
    have hfi:Ye v x=k:=by unfold Ye;exact Vb HY.out (by rw [he];simp) A.out
    have HFI:=Qq hfi
    clear he hfi
    by_cases hkl:k<v.kids.length
    ·have hr0:r=k:=by
      rw [← HR.out];unfold V5;rw [HFI.out]
      have:Yb v (k:Int)=true:=by unfold Yb;simp [H4.out,hkl]
      rw [this];rfl
     subst hr0
     go_wp2_with fail
     go_ret
     exact ⟨rfl,Qn _ _⟩
    have hr0:r=-1:=by
     rw [← HR.out];unfold V5;rw [HFI.out]
     have:Yb v (k:Int)=false:=by unfold Yb;simp [hkl]
     rw [this];rfl
    subst hr0
    have hkl2:¬ (k:Int)<(v.kids.length:Int):=by omega
    go_wp2_with fail
    go_ret
    exact ⟨rfl,Qn _ _⟩
   have hq:(y==x)=false:=by rw [← Bool.not_eq_true,beq_iff_eq];exact he
   have HE:=Qq he
   clear he
   go_wp2_with fail
   go_round
   case measure=>simp [intOf];omega
   case rel=>
    refine ⟨k+1,by omega,by go_num,(show Aside _ from fun j z hj hz=>?_)⟩
    by_cases e:j=k
    ·subst e
     have:=HY.out
     rw [this] at hz
     cases hz
     simpa using HE.out
    exact A.out j z (by omega) hz
  have hltz:¬ (k:Int)<(n:Int):=by omega
  have:k=n:=by omega
  subst this
  have hfi:Ye v x=-1:=by unfold Ye;exact Xf (fun j y hy=>A.out j y (by have:=(Qj hy).1;have:=HN.out;omega) hy)
  have hr0:r=-1:=by
   rw [← HR.out];unfold V5;rw [hfi]
   have:Yb v (-1)=false:=by unfold Yb;simp
   rw [this];rfl
  subst hr0
  clear hfi
  go_wp2_with fail
  go_ret
  exact ⟨rfl,Qn _ _⟩
 have hr0:r=-1:=by
  rw [← hr];unfold V5
  have:Yb v (Ye v x)=false:=by unfold Yb;simp [h4]
  rw [this];rfl
 subst hr0
 have hq:(v.kind != 4)=true:=by rw [bne_iff_ne];exact h4
 clear h hn hk hr h4
 unfold sv
 go_enter func73,ntmps73
 go_wp2_with fail
 go_ret
 exact ⟨rfl,Qn _ _⟩
def RGetIs (S:Nat→Prop) (w:World) (o:Option Val) (e:Ending) (w':World):Prop:=
 ∃ cs',e=.returned (.tuple #[.agg cs'.toArray,.bool o.isSome])∧Qh S w' cs' (o.getD Val.zero)∧Below w.heap.size w w'
theorem Km {v:Val} {x:Bs} (h:Y1 v x=none):V5 v x=-1:=by unfold V5;rw [Ec h];rfl
theorem Dj {v u:Val} {x:Bs} (h:Y1 v x=some u):∃ i:Nat,V5 v x=i∧v.kids[i]?=some u:=by
 obtain ⟨i,hi,hu,hb⟩:=Dm h
 exact ⟨i,by unfold V5;rw [hb,hi];rfl,hu⟩
theorem Fo (S:Nat→Prop) (v:Val) (cs:List Value) (x:Bs) (w:World) (h0:Qh S w cs v):
  Calls prog 38 #[.agg cs.toArray,sv x] w (RGetIs S w (Y1 v x)):=by
 have h:Qh (fun b=>S b∧b<w.heap.size) w cs v:=h0.move (.refl _ _) (fun b hb hs=>⟨hs,hb⟩)
 clear h0
 have HF:=Qq (fun W (hb:Below w.heap.size w W)=>Bc _ v cs x W (h.move (.of_below hb) (fun _ _ h=>h)))
 obtain ⟨p3,k3,p4,k4,hcs,hn,hk,_⟩:=Qh.cells h
 simp only [vcs] at hcs
 subst hcs
 have HK:=Qq hk
 clear h hn hk
 unfold sv at HF ⊢
 cases hg:Y1 v x with
 | none=>
  rw [Km hg] at HF
  clear hg
  go_enter func38,ntmps38
  go_wp2_with fail
  refine (HF.out _ (Zv _ _ _)).mono ?_
  rintro e w1 ⟨rfl,hw⟩
  have HW:=Qq hw
  have hR:=(hw.block (w.heap.size+1) (by simp)).trans (Q6 _ _ _)
  have HR:=Qq hR
  have f:=fun j=>frozen_of_row _ _ j _ _ hR
  have y:=fun j=>Qk _ _ j _ _ _ hR
  have y0:=y 0;have y1:=y 1;have y2:=y 2;have y3:=y 3;have y4:=y 4
  have f0:=f 0;have f1:=f 1;have f2:=f 2;have f3:=f 3;have f4:=f 4
  simp only [List.getElem?_toArray,List.getElem?_cons_zero,List.getElem?_cons_succ] at y0 y1 y2 y3 y4
  clear hw hR f y
  go_wp2_with fail
  show bodyPost _ _ _ _ _ (Zz w1 _ _ _ _ _ _)
  refine Q7 (v:=.tuple #[.agg zV,.bool false]) (by simp [results,results38,go_sem,Qm HR.out]) rfl ⟨_,rfl,Zo _ _,?_⟩
  exact Qo ((Zv w _ _).thn HW.out) (by omega)
 | some u=>
  obtain ⟨i,hi,hku⟩:=Dj hg
  rw [hi] at HF
  obtain ⟨b,off,q3,l3,q4,l4,rfl,hbl,hvu,d0,d1,d2,d3,d4⟩:=HK.out.val hku
  have hlt:i<v.kids.length:=(Qj hku).1
  have hi1:(0:Int)≤(i:Int):=by omega
  have hi2:(i:Int)<(v.kids.length:Int):=by omega
  have hi3:decide ((i:Int)<0)=false:=by simp
  have HV:=Qq hvu
  clear hg hi hku hvu
  go_enter func38,ntmps38
  go_wp2_with fail
  refine (HF.out _ (Zv _ _ _)).mono ?_
  rintro e w1 ⟨rfl,hw⟩
  have hb1:=(Zv w _ _).thn hw
  have hR:=(hw.block (w.heap.size+1) (by simp)).trans (Q6 _ _ _)
  have hX:=(hw.block w.heap.size (by simp;omega)).trans (Q5 _ _ _)
  have e0:=(hb1.cell (p:=⟨b,off+i*5,none⟩) hbl).trans d0;have e1:=(hb1.cell (p:=⟨b,off+i*5+1,none⟩) hbl).trans d1;have e2:=(hb1.cell (p:=⟨b,off+i*5+2,none⟩) hbl).trans d2;have e3:=(hb1.cell (p:=⟨b,off+i*5+3,none⟩) hbl).trans d3;have e4:=(hb1.cell (p:=⟨b,off+i*5+4,none⟩) hbl).trans d4
  have x4:=Qk _ _ 4 _ _ _ hX
  have f:=fun j=>frozen_of_row _ _ j _ _ hR
  have y:=fun j=>Qk _ _ j _ _ _ hR
  have y0:=y 0;have y1:=y 1;have y2:=y 2;have y3:=y 3;have y4:=y 4
  have f0:=f 0;have f1:=f 1;have f2:=f 2;have f3:=f 3;have f4:=f 4
  simp only [List.getElem?_toArray,List.getElem?_cons_zero,List.getElem?_cons_succ] at x4 y0 y1 y2 y3 y4
  have HB1:=Qq hb1;have HR:=Qq hR
  clear hw hb1 hX hR d0 d1 d2 d3 d4 f y
  go_wp2_with fail
  show bodyPost _ _ _ _ _ (Zz w1 _ _ _ _ _ _)
  refine Q7 (v:=.tuple #[.agg #[.int .i64 u.kind,.int .i64 u.n,.string ⟨u.s.toArray⟩,.slice q3 u.names.length l3,.slice q4 u.kids.length l4],.bool true]) (by simp [results,results38,go_sem,Qm HR.out]) rfl ⟨_,rfl,?_,Qo HB1.out (by omega)⟩
  refine Qh.move HV.out (fun b hb hlt=>(Qu ?_).trans (HB1.out.block b hlt)) (fun b _ hb=>hb.1)
  have:=hb.2
  omega
def N4:Rd Bs where
 k:=2
 R _ _ cs x:=cs=[sv x,.slice none 0 0]∧x.length≤1000000
 len h:=by rw [h.1];rfl
 frame h _:=h
 mono h _:=h
def Yh (s:Sc):List Rel:=s.tables.map (fun t=>⟨t.name,[]⟩)
theorem Sv {E:TypeId} {S:Nat→Prop} {B:Nat} {w:World} {v:Value} {ns:List Bs} {css:List (List Value)} (h:Own N4 E S B w v ns css) (hE:E=57):Xo B w v (ns.map fun x=>⟨x,[]⟩) (List.replicate ns.length (.slice none 0 0)):=by
 subst hE
 have hc:css=Zc (ns.map fun x=>⟨x,[]⟩) (List.replicate ns.length (.slice none 0 0)):=by
  apply List.ext_getElem?
  intro i
  by_cases hi:i<ns.length
  ·have h1:=Qx (l:=css) (i:=i) (by rw [h.cs.len];exact hi)
   have h2:=Qx hi
   have h3:=(h.cs.R i _ _ h1 h2).1
   rw [h1,h3,Jw (r:=⟨ns[i],[]⟩) (rv:=.slice none 0 0) (by rw [List.getElem?_map,h2];rfl) (by rw [List.getElem?_replicate,if_pos hi])]
  rw [List.getElem?_eq_none (by rw [h.cs.len];omega),List.getElem?_eq_none (by rw [Va (by simp)];simp;omega)]
 refine ⟨by simp,?_,?_,?_,?_⟩
 ·rw [← hc,List.length_map];exact h.row
 ·intro r hr
  obtain ⟨x,hx,rfl⟩:=List.mem_map.1 hr
  obtain ⟨i,hi⟩:=List.getElem?_of_mem hx
  have hil:=(Qj hi).1
  exact (h.cs.R i _ _ (Qx (by rw [h.cs.len];exact hil)) hi).2
 ·intro i r rv hr hrv
  rw [List.getElem?_replicate] at hrv
  split at hrv
  ·cases hrv
   rw [List.getElem?_map] at hr
   cases hx:ns[i]? with
   | none=>rw [hx] at hr;cases hr
   | some x=>rw [hx] at hr;cases hr;exact ⟨[],Own.nil _ _ _ _ _⟩
  cases hrv
 intro i j a b g ha _ h1
 rw [List.getElem?_replicate] at ha
 split at ha
 ·cases ha;cases h1
 cases ha
def Pa (w:World) (s:Sc) (e:Ending) (w':World):Prop:=∃ p cap,e=.returned (.slice p s.tables.length cap)∧Xo w.heap.size w' (.slice p s.tables.length cap) (Yh s) (List.replicate s.tables.length (.slice none 0 0))∧Below w.heap.size w w'
theorem Tz (S0:Nat→Prop) (s:Sc) (cs:List Value) (w:World) (hs:Yn S0 w cs s) (hnl:∀ t ∈ s.tables,t.name.length≤1000000) (hl0:s.tables.length≤1000):
  Calls prog 29 #[.agg cs.toArray] w (Pa w s):=by
 obtain ⟨uv,tv,rfl,hu,ht0⟩:=hs
 have ht:Sl Qt (fun b=>b<w.heap.size) w tv s.tables:=ht0.mono (fun b hb _=>hb)
 obtain ⟨up,uc,rfl,_⟩:=hu.len
 obtain ⟨tp,tc,rfl,htl⟩:=ht.len
 have HT:=Qq ht;have HNL:=Qq hnl
 obtain ⟨i0,j1,j2,j3,j4⟩:=Za (P:=prog) (t:=57) (z:=.agg #[.string ⟨#[]⟩,.slice none 0 0]) (n:=2) (b:=40) (by kernel_rfl)
 have HJ:=Qq j1;have HJ2:=Qq j2;have HJ3:=Qq j3;have HJ4:=Qq j4
 clear hu ht0 ht hnl j1 j2 j3 j4
 unfold Pa Yh
 obtain ⟨n,hn⟩:=eX (s.tables.length)
 rw [hn] at HT hl0 ⊢
 have HN:=Qq hn
 clear hn
 go_enter func29,ntmps29
 go_wp2_with fail
 generalize hW1:w.alloc _=W1
 have hb1:=eqB hW1 (Qn _ _)
 have hX1:=eqH (b:=w.heap.size) hW1 (Qw _ _)
 have HB1:=Qq hb1;have HX1:=Qq hX1
 clear hW1 hb1 hX1
 have hszW:w.heap.size≤W1.heap.size:=HB1.out.size
 go_loopw [3,9] (fun o i wr=>∃ (k:Nat) (p:Option Addr) (cap:Nat) (ns:List Bs) (css:List (List Value)),k≤n∧i=.int .i64 k∧o=.slice p k cap∧ns.length=k∧Aside (ns=(s.tables.take k).map Tbl.name) ∧
  Own N4 57 (fun _=>False) W1.heap.size wr (.slice p k cap) ns css∧Below W1.heap.size W1 wr) (fun _ i _=>n - (intOf i).toNat)
 case atStart=>exact ⟨0,none,0,[],[],Q8 _,rfl,rfl,rfl,rfl,Own.nil _ _ _ _ _,Qz _ _⟩
 obtain ⟨k,p,cap,ns,css,hkn,rfl,rfl,hns,hE,hO,hBr⟩:=hrel
 have hXr:=kB hBr HX1.out
 have hsr:=hBr.size
 have HBr:=Qq hBr;have HBw:=Qq (HB1.out.trans (hBr.mono hszW));have HO:=Qq hO;have HE:=Qq hE.out;have HNS:=Qq hns
 clear hXr hBr hO hE hns
 by_cases hlt:k<n
 ·have hi1:(0:Int)≤(k:Int):=by omega
  have hi2:(k:Int)<(n:Int):=by omega
  obtain ⟨t,hx⟩:∃ t,s.tables[k]?=some t:=⟨_,Qx (by rw [HN.out];exact hlt)⟩
  have htn:=HNL.out t (Qy hx)
  have htk:(s.tables.take (k+1)).map Tbl.name=(s.tables.take k).map Tbl.name++[t.name]:=by
   have hk:=(Qj hx).1
   rw [List.take_succ_eq_append_getElem hk,List.map_append]
   rw [Qx hk] at hx;cases hx;rfl
  obtain ⟨tb,toff,ct,rfl,htb,_,htlen,htR,htc⟩:=(HT.out.below HBw.out).elem hx
  obtain ⟨cp9,cc9,kp9,kc9,rp9,rc9,k9,s19,n9,s29,p19,n19,c19,p29,n29,c29,p39,n39,c39,a9,z9,hcs,_⟩:=Zk htR
  simp only [tcs] at hcs
  subst hcs
  have d0:=htc 0 _ rfl
  have d1:=htc 1 _ rfl
  have d2:=htc 2 _ rfl
  have d3:=htc 3 _ rfl
  have d4:=htc 4 _ rfl
  have d5:=htc 5 _ rfl
  have d6:=htc 6 _ rfl
  have d7:=htc 7 _ rfl
  have d8:=htc 8 _ rfl
  have d9:=htc 9 _ rfl
  have d10:=htc 10 _ rfl
  have d11:=htc 11 _ rfl
  have d12:=htc 12 _ rfl
  simp only [show Qt.k=13 from rfl,Nat.add_zero] at d0 d1 d2 d3 d4 d5 d6 d7 d8 d9 d10 d11 d12
  have HTN:=Qq htn;have HTK:=Qq htk
  clear hx htn htk htR htc htlen
  go_upto_region 5 with fail
  obtain ⟨W5,hW5⟩:=eX (wr.alloc (.cells #[.string ⟨t.name.toArray⟩,.slice cp9 t.columns.length cc9,.slice kp9 t.key.length kc9,.slice rp9 t.refs.length rc9,.int .i64 k9,.string s19,.int .i64 n9,.string s29,.slice p19 n19 c19,.slice p29 n29 c29,.slice p39 n39 c39,.int .i64 a9,.int .i64 z9] 37))
  rw [hW5]
  have hb5:=eqB hW5 (Qn _ _)
  have hX5:=eqH (b:=wr.heap.size) hW5 (Qw _ _)
  have x0:=rA0 hX5
  have HO5:=Qq (HO.out.below hb5);have HB5:=Qq (HBr.out.trans (hb5.mono hsr))
  have hsz5:W1.heap.size≤W5.heap.size:=by have:=hb5.size;omega
  clear hW5 hb5 hX5 d0 d1 d2 d3 d4 d5 d6 d7 d8 d9 d10 d11 d12
  go_wp2_with (at_builtin;refine Zm (r:=N4) (by decide) rfl (.tmp 13) (.tmp 17) _ rfl 57 i0 (.agg #[.string ⟨#[]⟩,.slice none 0 0]) 40 underlying28 HJ.out HJ2.out HJ3.out HJ4.out rfl (by omega) (fun _=>False) W1.heap.size W5 (.slice p k cap) ns css [.string ⟨t.name.toArray⟩,.slice none 0 0] t.name rfl HO5.out rfl ⟨rfl,HTN.out⟩ (by simp [Value.oneCell']) k HNS.out (by omega) hsz5 ?_;intro p7 cap7 css7 w7 hO7 hL7;have HO7:=Qq hO7;have HL7:=Qq hL7;clear hO7 hL7)
  go_roundw
  case measure=>simp [intOf];omega
  case rel=>exact ⟨k+1,p7,cap7,ns++[t.name],css7,by omega,by go_num,rfl,by have:=HNS.out;simp [this],(show Aside _ from by have:=HE.out;show _=_;rw [this,HTK.out]),HO7.out,HB5.out.trans HL7.out.below⟩
 obtain rfl:k=n:=by omega
 have hi2:¬ (k:Int)<(k:Int):=by omega
 go_wp2_with fail
 go_ret
 have hE:=HE.out
 rw [List.take_of_length_le (by rw [HN.out];exact Q9 _)] at hE
 have hO:=Sv (HO.out.move hszW (fun b hb _=>rfl)) rfl
 rw [HNS.out] at hO
 refine ⟨p,cap,rfl,?_,HBw.out⟩
 rw [hE,List.map_map] at hO
 exact hO
def Yu (n m:Int):Int:=(if n<0 then -(n+1) else n) % m
theorem Mi (n m:Int) (hm:0<m):0≤Yu n m∧Yu n m<m:=by
 unfold Yu;exact ⟨Int.emod_nonneg _ (by omega),Int.emod_lt_of_pos _ hm⟩
theorem ret_intE {k:IntKind} {a b:Int} (h:a=b):Ending.returned (.int k a)=.returned (.int k b):=by rw [h]
theorem Gn (n m:Int) (w:World) (hn1:-9223372036854775808≤n) (hn2:n≤9223372036854775807) (hm:1≤m) (hm2:m≤9223372036854775807):
  Calls prog 19 #[.int .i64 n,.int .i64 m] w fun e w'=>e=.returned (.int .i64 (Yu n m))∧w=w':=by
 have hz:(m==0)=false:=by simpa using (by omega:¬ m=0)
 by_cases h:n<0
 ·have hr:Yu n m=(-(n+1)) % m:=by unfold Yu;rw [if_pos h]
  rw [hr]
  clear hr
  have h1:0≤-(n+1):=by omega
  go_enter func19,ntmps19
  go_wp2
  go_ret
  exact ⟨ret_intE (by rw [← Int.neg_tmod,Int.tmod_eq_emod_of_nonneg h1]),rfl⟩
 have hr:Yu n m=n % m:=by unfold Yu;rw [if_neg h]
 rw [hr]
 clear hr
 go_enter func19,ntmps19
 go_wp2
 go_ret
 exact ⟨rfl,rfl⟩
def Zp (l:List Int) (i:Nat) (m:Int):Int:=match l[i]? with
 | some n=>Yu n m
 | none=>0
def V9 (l:List Int):Prop:=∀ n ∈ l,-9223372036854775808≤n∧n≤9223372036854775807
def Fm (w:World) (x:Val) (e:Ending) (w':World):Prop:=∃ cs,e=.returned (.agg cs.toArray)∧Qh (fun b=>w.heap.size≤b) w' cs x∧Below w.heap.size w w'
theorem Z4 {T:Type} {r:Rd T} {S:Nat→Prop} {w:World} {b n:Nat} {E:TypeId} {cells:Array Value} {xs:List T} {css:List (List Value)} (hb:w.heap[b]?=some (.cells cells E (0,0))) (hS:S b) (hcs:Cs r S w css xs) (hc:css.flatten=cells.toList) (hn:n=xs.length) (hl:xs.length≤1000000):Sl r S w (.slice (some ⟨b,0,none⟩) n n) xs:=by
 subst hn
 refine Sl.of_css hl hcs hS (Array.getElem?_eq_some_iff.1 hb).1 (fun j u hu=>?_)
 rw [Nat.zero_add,Qk _ _ _ _ _ _ hb]
 rw [hc] at hu
 simpa using hu
theorem Dp (S:Nat→Prop) (w:World) (n:Int):Qh S w [.int .i64 0,.int .i64 n,.string ⟨#[]⟩,.slice none 0 0,.slice none 0 0] (Xi n):=Zn (s:=[]) (by simp) (Sl.nil _ _ _) (Sl.nil _ _ _)
theorem Gk (S:Nat→Prop) (w:World) (a b:Bs) (ha:a.length≤1000000) (hb:b.length≤1000000):Cs Qp S w [[.string ⟨a.toArray⟩],[.string ⟨b.toArray⟩]] [a,b]:=
 (Cs.one (r:=Qp) (x:=a) (show Qp.R S w [.string ⟨a.toArray⟩] a from ⟨rfl,ha⟩)).app (Cs.one (r:=Qp) (x:=b) (show Qp.R S w [.string ⟨b.toArray⟩] b from ⟨rfl,hb⟩))
theorem Ku (a b:Bs) (x y:Int) (w:World) (ha:a.length≤1000000) (hb:b.length≤1000000):
  Calls prog 50 #[sv a,.int .i64 x,sv b,.int .i64 y] w (Fm w (U0 [a,b] [Xi x,Xi y])):=by
 unfold sv
 go_enter func50,ntmps50
 go_wp2_with fail
 generalize hW:((w.alloc _).alloc _).alloc _=W
 have h0:=eqH (b:=w.heap.size) hW (Zd _ _ _ _)
 have h1:=eqH (b:=w.heap.size+1) hW (Z9 _ _ _ _)
 have h2:=eqH (b:=w.heap.size+1+1) hW (Zw _ _ _ _)
 have hb3:=eqB hW (Xr _ _ _ _)
 refine Q7 (v:=.agg #[.int .i64 4,.int .i64 0,.string ⟨#[]⟩,.slice (some ⟨w.heap.size+1,0,none⟩) 2 2,.slice (some ⟨w.heap.size+1+1,0,none⟩) 2 2]) (by simp [results,results50,go_sem,Qk _ _ _ _ _ _ h0]) rfl ⟨[.int .i64 4,.int .i64 0,.string ⟨#[]⟩,.slice (some ⟨w.heap.size+1,0,none⟩) 2 2,.slice (some ⟨w.heap.size+1+1,0,none⟩) 2 2],rfl,?_,hb3⟩
 refine Zn (s:=[]) (by simp) ?_ ?_
 ·exact Z4 h1 (by show w.heap.size≤w.heap.size+1;omega) (Gk _ _ a b ha hb) rfl rfl (by simp)
 exact Z4 h2 (by show w.heap.size≤w.heap.size+1+1;omega) ((Cs.one (r:=Ql) (Dp _ W x)).app (Cs.one (r:=Ql) (Dp _ W y))) rfl rfl (by simp)
theorem Qi {W:World} {b:Nat} {o:Obj} (h:W.heap[b]?=some o) (o':Obj):(W.alloc o').heap[b]?=some o:=((Qn W o').block b (Qf h)).trans h
theorem Z8 {W:World} {n:Nat} (h:W.heap.size=n) (o:Obj):(W.alloc o).heap[n]?=some o:=by subst h;exact Qw W o
theorem Nf {T:Type} (r:Rd T) (S:Nat→Prop) (w:World) (p:Option Addr) (c:Nat):Sl r S w (.slice p 0 c) []:=⟨p,c,rfl,by simp,fun h=>absurd rfl h⟩
theorem Hq (S:Nat→Prop) (w:World) (p1 p2 p3:Option Addr) (c1 c2 c3:Nat):Z6 S w [.int .i64 2,.string ⟨#[]⟩,.int .i64 1,.string ⟨#[]⟩,.slice p1 0 c1,.slice p2 0 c2,.slice p3 0 c3,.int .i64 0,.int .i64 0] Gen.yes:=
 Yk (nm:=[]) (s:=[]) (by simp) (by simp) (Nf _ _ _ _ _) (Nf _ _ _ _ _) (Nf _ _ _ _ _)
theorem Xc {S:Nat→Prop} {w:World} (nm:Bs) (k:Int) (tn:Bs) (h1:nm.length≤1000000) (h2:tn.length≤1000000):Y0.R S w [.string ⟨nm.toArray⟩,.int .i64 k,.string ⟨tn.toArray⟩,.int .i64 0,.slice none 0 0,.slice none 0 0] ⟨nm,.mk k tn 0 [] []⟩:=
 ⟨_,rfl,h1,Jj h2 (Sl.nil _ _ _) (Sl.nil _ _ _)⟩
theorem Lz {S:Nat→Prop} {w:World} (nm:Bs) (b:Bool) (k:Int) (h1:nm.length≤1000000):Be.R S w [.string ⟨nm.toArray⟩,.bool b,.int .i64 k,.string ⟨#[]⟩,.int .i64 0,.slice none 0 0,.slice none 0 0] ⟨nm,b,.mk k [] 0 [] []⟩:=
 ⟨_,rfl,h1,Jj (s:=[]) (by simp) (Sl.nil _ _ _) (Sl.nil _ _ _)⟩
theorem Jv {S:Nat→Prop} {w:World} (a:Bs) (ha:a.length≤1000000):Cs Qp S w [[.string ⟨a.toArray⟩]] [a]:=Cs.one (r:=Qp) (x:=a) (show Qp.R S w [.string ⟨a.toArray⟩] a from ⟨rfl,ha⟩)
def Vi (w:World) (x:Ex) (e:Ending) (w':World):Prop:=∃ cs,e=.returned (.agg cs.toArray)∧Z6 (fun b=>w.heap.size≤b) w' cs x∧Below w.heap.size w w'
def NewSc (w:World) (x:Sc) (e:Ending) (w':World):Prop:=∃ cs,e=.returned (.agg cs.toArray)∧Yn (fun b=>w.heap.size≤b) w' cs x∧Below w.heap.size w w'
theorem Zq {w W:World} (h:Below w.heap.size w W) (o:Obj):Below w.heap.size w (W.alloc o):=h.alloc h.size o
namespace Inc
end Inc
def UpV (l:List Val):Prop:=l.Pairwise (fun a b=>Z1 a b<0)
theorem hasV_iff {l:List Val} {x:Val}:Kx l x=true↔key x ∈ l.map key:=by
 unfold Kx
 rw [List.any_eq_true,List.mem_map]
 constructor
 ·rintro ⟨y,hy,h⟩;exact ⟨y,hy,Pd.1 h⟩
 rintro ⟨y,hy,h⟩;exact ⟨y,hy,Pd.2 h⟩
theorem Kj {α:Type} (p:α→Bool):∀ (l:List α) (x:α),x ∈ l.take (l.takeWhile p).length→p x=true
 | [],x,h=>by simp at h
 | a::l,x,h=>by
  rw [List.takeWhile_cons] at h
  split at h
  ·rename_i hp
   rw [List.length_cons,List.take_succ_cons] at h
   rcases List.mem_cons.1 h with rfl | h
   ·exact hp
   exact Kj p l x h
  simp at h
theorem Fp {α:Type} (p:α→Bool):∀ (l:List α) (y:α) (r:List α),l.drop (l.takeWhile p).length=y::r→p y=false
 | [],y,r,h=>by simp at h
 | a::l,y,r,h=>by
  rw [List.takeWhile_cons] at h
  split at h
  ·rw [List.length_cons,List.drop_succ_cons] at h
   exact Fp p l y r h
  rename_i hp
  simp at h
  rw [← h.1];simpa using hp
theorem putV_up {l:List Val} (h:UpV l) (x:Val):UpV (Vc l x):=by
 by_cases hh:Kx l x=true
 ·unfold Vc;rw [if_pos hh];exact h
 rw [T8 _ _ (by simpa using hh)]
 have hne:∀ y ∈ l,Z1 y x≠0:=fun y hy h0=>hh (hasV_iff.2 (List.mem_map.2 ⟨y,hy,Bu.1 h0⟩))
 have h1:∀ y ∈ l.take (Yy l x),Z1 y x<0:=fun y hy=>by
  have:=Kj _ _ _ hy
  have h2:=of_decide_eq_true this
  have:=hne y (List.mem_of_mem_take hy)
  omega
 have hpw:=h
 unfold UpV at hpw ⊢
 rw [← List.take_append_drop (Yy l x) l,List.pairwise_append] at hpw
 have hl:∀ a b:Val,Z1 a b<0→∀ c,Z1 b c<0→Z1 a c<0:=fun a b h c h'=>by rw [Kp] at *;exact Ev h h'
 have h2:∀ y ∈ l.drop (Yy l x),Z1 x y<0:=by
  intro y hy
  cases hd:l.drop (Yy l x) with
  | nil=>rw [hd] at hy;cases hy
  | cons z r=>
   have hz:=Fp _ _ _ _ hd
   have hz':0<Z1 z x:=by
    have:=of_decide_eq_false hz
    omega
   have hxz:Z1 x z<0:=by
    rw [Kp,Jd,← Kp];omega
   rw [hd] at hy
   rcases List.mem_cons.1 hy with rfl | hy
   ·exact hxz
   have:=hpw.2.1
   rw [hd] at this
   exact hl _ _ hxz _ ((List.pairwise_cons.1 this).1 y hy)
 rw [List.pairwise_append]
 refine ⟨hpw.1,List.pairwise_cons.2 ⟨h2,hpw.2.1⟩,fun a ha b hb=>?_⟩
 rcases List.mem_cons.1 hb with rfl | hb
 ·exact h1 a ha
 exact hpw.2.2 a ha b hb
end Go.Proofs.YtppbaladeefnkaaGreatDoor
