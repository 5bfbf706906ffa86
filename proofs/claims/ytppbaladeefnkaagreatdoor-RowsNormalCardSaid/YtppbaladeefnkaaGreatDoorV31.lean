import Derived.Test.YtppbaladeefnkaaGreatDoorV26
import Derived.Test.YtppbaladeefnkaaGreatDoorV30
set_option maxRecDepth 100000
set_option maxHeartbeats 400000000
namespace Go.Proofs.YtppbaladeefnkaaGreatDoor
open Go.RowKit Go.Shelf Go.Lib Tryz
theorem Hm {T:Type} {p:T→Bool} {xs:List T} {k:Nat} {x:T} (hx:xs[k]?=some x) (hp:p x=true) (hne:∀ (j:Nat) (y:T),j<k→xs[j]?=some y→p y=false):atP p xs=some x:=by
 have h:=Vb hx hp hne
 rcases Vq p xs with ⟨h1,_⟩ | ⟨i,y,h1,h2,h3⟩
 ·rw [h] at h1;omega
 rw [h] at h1
 have:k=i:=by omega
 subst this
 rw [hx] at h2;cases h2;exact h3
theorem Fu {T:Type} {p:T→Bool} {xs:List T} (hne:∀ (j:Nat) (y:T),xs[j]?=some y→p y=false):atP p xs=none:=by
 have h:=Xf hne
 rcases Vq p xs with ⟨_,h2⟩ | ⟨i,y,h1,_,_⟩
 ·exact h2
 rw [h] at h1;omega
theorem Pr {s:Sc} {l:List Rel} {tn:Bs} {key:List Val} (h:Z5 s.tables tn=none∨key.length=0):U2 s l tn key=none:=by
 unfold U2
 rcases h with h | h
 ·rw [h]
 split
 ·rw [if_pos h]
 rfl
theorem R1 {s:Sc} {l:List Rel} {tn:Bs} {key:List Val} {T:Tbl} (h:Z5 s.tables tn=some T) (hk:0<key.length):U2 s l tn key=atP (lkP T.key key) (Yv l tn):=by
 unfold U2
 rw [h]
 rcases Vk l tn with ⟨h1,h2⟩ | ⟨i,r,h1,h2,h3⟩
 ·have:atP (fun r=>decide (r.table=tn)) l=none:=by
   rcases Vq (fun r:Rel=>decide (r.table=tn)) l with ⟨_,h4⟩ | ⟨i,y,h4,_,_⟩
   ·exact h4
   rw [h2] at h4;omega
  rw [this]
  unfold Yv;rw [h1];rfl
 have:atP (fun r=>decide (r.table=tn)) l=some r:=by
  rcases Vq (fun r:Rel=>decide (r.table=tn)) l with ⟨h4,_⟩ | ⟨j,y,h4,h5,h6⟩
  ·rw [h2] at h4;omega
  rw [h2] at h4
  have:i=j:=by omega
  subst this
  rw [h3] at h5;cases h5;exact h6
 rw [this]
 simp only
 rw [if_neg (by omega)]
 unfold Yv;rw [h1];simp [List.getD_eq_getElem?_getD,h3]
def RLookIs (S:Nat→Prop) (w:World) (o:Option Val) (e:Ending) (w':World):Prop:=
 ∃ cs',e=.returned (.tuple #[.agg cs'.toArray,.bool o.isSome])∧Qh S w' cs' (o.getD Val.zero)∧Below w.heap.size w w'
theorem M0 (S0 S1 S2:Nat→Prop) (s:Sc) (cs:List Value) (lv:Value) (l:List Rel) (tn:Bs) (kv:Value) (key:List Val) (w:World) (hs:Yn S0 w cs s) (hl0:Sl Z0 S1 w lv l) (hkv0:Sl Ql S2 w kv key) (hkl:∀ t ∈ s.tables,t.key.length≤1000):
  Calls prog 16 #[.agg cs.toArray,lv,sv tn,kv] w (RLookIs S1 w (U2 s l tn key)):=by
 have hl:=hl0.up
 have HT:=Qq (fun W (hb:Below w.heap.size w W)=>Bx S0 s cs tn W (hs.below hb))
 have HRo:=Qq (fun W (hb:Below w.heap.size w W)=>Uo _ lv l tn W (hl.below hb))
 have HKV:=Qq hkv0
 obtain ⟨uv,tv,rfl,hu,ht⟩:=hs
 obtain ⟨up,uc,rfl,_⟩:=hu.len
 obtain ⟨tp,tc,rfl,_⟩:=ht.len
 obtain ⟨kp,kc,rfl,hkl1⟩:=hkv0.len
 obtain ⟨rows,hrows⟩:=eX (Yv l tn)
 rw [hrows] at HRo
 have HRows:=Qq hrows
 obtain ⟨res,hres⟩:=eX (U2 s l tn key)
 rw [hres]
 have HRes:=Qq hres
 have hTk:((Z5 s.tables tn).getD Tbl.zero).key.length≤1000:=by
  cases h:Z5 s.tables tn with
  | none=>exact Q8 _
  | some t=>exact hkl t (List.mem_of_find?_eq_some h)
 obtain ⟨T,hT⟩:=eX ((Z5 s.tables tn).getD Tbl.zero)
 obtain ⟨b,hb⟩:=eX ((Z5 s.tables tn).isSome)
 have HTe:=Qq hT;have HBe:=Qq hb
 rw [hT] at hTk
 obtain ⟨kn,hkn⟩:=eX (key.length)
 rw [hkn] at HKV hkl1 ⊢
 have HKn:=Qq hkn
 unfold TabIs at HT
 rw [hT,hb] at HT
 clear hu ht hl0 hl hkv0 hrows hres hT hb hkl hkn
 unfold sv at HT HRo ⊢
 go_enter func16,ntmps16
 go_wp2_with fail
 refine (HT.out _ (Zv _ _ _)).mono ?_
 rintro e w1 ⟨ct,rfl,hvT,hb1⟩
 obtain ⟨cp9,cc9,kp9,kc9,rp9,rc9,k9,s19,n9,s29,p19,n19,c19,p29,n29,c29,p39,n39,c39,a9,z9,hcs,_⟩:=Zk hvT
 have HVT:=Qq hvT
 simp only [tcs] at hcs
 subst hcs
 have hZ1:=(hb1.block (w.heap.size+1) (by simp)).trans (Q6 w _ _)
 have HB1:=Qq ((Zv w _ _).thn hb1);have HZ1:=Qq hZ1
 have hlt1:=Qf hZ1
 clear hvT hb1 hZ1 HT
 go_upto_region 2 with fail
 obtain ⟨X,hX⟩:=eX (w1.heap.size)
 generalize hW2:w1.alloc (.cells #[.string ⟨T.name.toArray⟩,.slice cp9 T.columns.length cc9,.slice kp9 T.key.length kc9,.slice rp9 T.refs.length rc9,.int .i64 k9,.string s19,.int .i64 n9,.string s29,.slice p19 n19 c19,.slice p29 n29 c29,.slice p39 n39 c39,.int .i64 a9,.int .i64 z9] 37)=w2
 have hb2:=eqB hW2 (Qn _ _)
 have hX2:w2.heap[X]?=some (.cells #[.string ⟨T.name.toArray⟩,.slice cp9 T.columns.length cc9,.slice kp9 T.key.length kc9,.slice rp9 T.refs.length rc9,.int .i64 k9,.string s19,.int .i64 n9,.string s29,.slice p19 n19 c19,.slice p29 n29 c29,.slice p39 n39 c39,.int .i64 a9,.int .i64 z9] 37 (0,0)):=by rw [← hW2,← hX];exact Qw _ _
 have hZ2:=kE hb2 hlt1 HZ1.out
 have HB2:=Qq (HB1.out.thn hb2);have HX2:=Qq hX2;have HZ2:=Qq hZ2
 have HVT2:=Qq (Qt.frame HVT.out (.of_below hb2))
 rw [hX] at hlt1 ⊢
 clear hW2 hb2 hX2 hZ2 hX HZ1 HVT
 have hXs:=Qf HX2.out
 go_wp2_with (go_at_call 10;refine (HRo.out _ HB2.out).mono ?_;rintro e w' ⟨rp,rc,rfl,hrs,rfl⟩;have HRs:=Qq hrs;clear hrs)
 obtain ⟨n,hn⟩:=eX (rows.length)
 obtain ⟨_,_,_,hln⟩:=HRs.out.len
 rw [hn] at HRs hln ⊢
 have HN:=Qq hn
 clear hn
 by_cases hrun:b=true∧0<kn
 ·obtain ⟨rfl,hkn0⟩:=hrun
  have hsome:Z5 s.tables tn=some T:=by
   have h1:=HBe.out;have h2:=HTe.out
   cases hq:Z5 s.tables tn with
   | none=>rw [hq] at h1;cases h1
   | some v=>rw [hq] at h2;rw [← h2];rfl
  have hrl:res=atP (lkP T.key key) rows:=by rw [← HRes.out,R1 hsome (by rw [HKn.out];exact hkn0),HRows.out]
  have HRl:=Qq hrl
  have hkn1:(0:Int)<(kn:Int):=by omega
  have hkn2:decide (0<kn)=true:=by simpa using hkn0
  clear hsome hrl
  go_loopw [13,14] (fun i _ wr=>∃ k:Nat,k≤n∧i=.int .i64 k∧Aside (∀ (j:Nat) (y:Val),j<k→rows[j]?=some y→lkP T.key key y=false)∧Aside (Below w2.heap.size w2 wr)) (fun i _ _=>n - (intOf i).toNat)
  case atStart=>exact ⟨0,Q8 _,rfl,fun j _ hj=>absurd hj (Nat.not_lt_zero _),Qz _ _⟩
  obtain ⟨k,hk,rfl,A,hBr⟩:=hrel
  have HBr:=Qq (show Below w2.heap.size w2 wr from hBr)
  have HBw:=Qq (HB2.out.thn HBr.out)
  clear hBr
  have HXr:=Qq (kE HBr.out hXs HX2.out);have HZr:=Qq (kB HBr.out HZ2.out)
  have hsr:=HBr.out.size
  by_cases hlt:k<n
  ·have hi1:(0:Int)≤(k:Int):=by omega
   have hi2:(k:Int)<(n:Int):=by omega
   have hi3:decide (k<n)=true:=by simpa using hlt
   obtain ⟨y,hy⟩:∃ y,rows[k]?=some y:=⟨_,Qx (by rw [HN.out];exact hlt)⟩
   obtain ⟨rb,roff,q3,l3,q4,l4,rfl,hrb,hvy,e0,e1,e2,e3,e4⟩:=(HRs.out.below HBr.out).val hy
   have HVy:=Qq hvy;have HY:=Qq hy
   obtain ⟨x0,x1,x2,x3,x4,x5,x6,x7,x8,x9,x10,x11,x12⟩:=row13 HXr.out
   go_upto_region 6 with fail
   refine let_mvar% ?Lq1:=fun w':World=>w'.cell? ⟨X,0,none⟩=some (.string ⟨T.name.toArray⟩)∧w'.cell? ⟨X,1,none⟩=some (.slice cp9 T.columns.length cc9)∧w'.cell? ⟨X,2,none⟩=some (.slice kp9 T.key.length kc9)∧w'.cell? ⟨X,3,none⟩=some (.slice rp9 T.refs.length rc9)∧w'.cell? ⟨X,4,none⟩=some (.int .i64 k9)∧w'.cell? ⟨X,5,none⟩=some (.string s19)∧w'.cell? ⟨X,6,none⟩=some (.int .i64 n9)∧w'.cell? ⟨X,7,none⟩=some (.string s29)∧w'.cell? ⟨X,8,none⟩=some (.slice p19 n19 c19)∧w'.cell? ⟨X,9,none⟩=some (.slice p29 n29 c29)∧w'.cell? ⟨X,10,none⟩=some (.slice p39 n39 c39)∧w'.cell? ⟨X,11,none⟩=some (.int .i64 a9)∧w'.cell? ⟨X,12,none⟩=some (.int .i64 z9)∧w'.cell? ⟨rb,roff+k*5,none⟩=some (.int .i64 y.kind)∧w'.cell? ⟨rb,roff+k*5+1,none⟩=some (.int .i64 y.n)∧w'.cell? ⟨rb,roff+k*5+2,none⟩=some (.string ⟨y.s.toArray⟩)∧w'.cell? ⟨rb,roff+k*5+3,none⟩=some (.slice q3 y.names.length l3)∧w'.cell? ⟨rb,roff+k*5+4,none⟩=some (.slice q4 y.kids.length l4)∧Below wr.heap.size wr w';?_
   have HS:∀ w',Below wr.heap.size wr w'→?Lq1 w':=by
    intro w' h
    have hh:∀ {b j:Nat} {u:Value},b<wr.heap.size→wr.cell? ⟨b,j,none⟩=some u→w'.cell? ⟨b,j,none⟩=some u:=fun hlt hc=>kD h hlt hc
    have hXl:X<wr.heap.size:=by omega
    exact ⟨hh hXl x0,hh hXl x1,hh hXl x2,hh hXl x3,hh hXl x4,hh hXl x5,hh hXl x6,hh hXl x7,hh hXl x8,hh hXl x9,hh hXl x10,hh hXl x11,hh hXl x12,hh hrb e0,hh hrb e1,hh hrb e2,hh hrb e3,hh hrb e4,h⟩
   have HSB:∀ w',?Lq1 w'→Below wr.heap.size wr w':=fun w' h=>h.2.2.2.2.2.2.2.2.2.2.2.2.2.2.2.2.2.2
   have HC:=Qq (fun W' (h':?Lq1 W')=>(Kg S0 (fun b=>S1 b∧b<w.heap.size) T y [.string ⟨T.name.toArray⟩,.slice cp9 T.columns.length cc9,.slice kp9 T.key.length kc9,.slice rp9 T.refs.length rc9,.int .i64 k9,.string s19,.int .i64 n9,.string s29,.slice p19 n19 c19,.slice p29 n29 c29,.slice p39 n39 c39,.int .i64 a9,.int .i64 z9] [.int .i64 y.kind,.int .i64 y.n,.string ⟨y.s.toArray⟩,.slice q3 y.names.length l3,.slice q4 y.kids.length l4] W' (Qt.frame HVT2.out (.of_below (HBr.out.thn (HSB _ h')))) (HVy.out.move (.of_below (HSB _ h')) (fun _ _ h=>h)) hTk).mono (R':=fun e w2=>∃ p n cap,e=.returned (.slice p n cap)∧Sl Ql (fun _=>True) w2 (.slice p n cap) ((keyOf T.key y).getD [])∧?Lq1 w2) (by
    rintro e w2 ⟨p,cap,rfl,h3,h4⟩
    exact ⟨p,_,cap,rfl,h3.mono (fun _ _ _=>trivial),HS _ ((HSB _ h').thn h4)⟩))
   have HE:=Qq (fun W' p n cap (h':?Lq1 W') (h2:Sl Ql (fun _=>True) W' (.slice p n cap) ((keyOf T.key y).getD []))=>(Jp (fun _=>True) S2 (.slice p n cap) (.slice kp kn kc) ((keyOf T.key y).getD []) key W' h2 (HKV.out.below (HBw.out.thn (HSB _ h')))).mono (R':=fun e w2=>e=.returned (.bool (lkP T.key key y))∧?Lq1 w2) (by
    rintro e w2 ⟨rfl,h4⟩
    exact ⟨rfl,HS _ ((HSB _ h').thn h4.bl)⟩))
   have HS0:=Qq (HS wr.drew (Qz _ _).drew);have HSB':=Qq HSB
   obtain ⟨c,hc⟩:=eX (lkP T.key key y)
   rw [hc] at HE
   have HCc:=Qq hc
   clear HS HSB hvy hy hc x0 x1 x2 x3 x4 x5 x6 x7 x8 x9 x10 x11 x12 e0 e1 e2 e3 e4
   go_cut [14] from 24 to 50 (fun t14 wx=>t14=.bool c∧Aside (Below wr.heap.size wr wx))
   case first=>
    go_region_held3 ?Lq1 (first | with_reducible exact HS0.out | with_reducible exact hS2 | with_reducible exact hS3)
     (first
      | (go_at_call 12;refine (HC.out _ (by assumption)).mono ?_;rintro e w5 ⟨kp2,kn2,kc2,rfl,hk2,hS2⟩)
      | (go_at_call 13;refine (HE.out _ _ _ _ (by assumption) hk2).mono ?_;rintro e w6 ⟨rfl,hS3⟩))
    all_goals
     go_wp2_with fail
     go_meet
     exact ⟨rfl,HSB'.out _ hS3⟩
   obtain ⟨rfl,hbc⟩:=hcut
   have HBc:=Qq (show Below wr.heap.size wr wc from hbc)
   clear hbc HC HE HS0 HSB'
   cases c with
   | false=>
    go_wp2_with fail
    go_roundw
    case measure=>simp [intOf];omega
    case rel=>
     refine ⟨k+1,by omega,by go_num,(show Aside _ from fun j z hj hz=>?_),HBr.out.thn HBc.out⟩
     by_cases e:j=k
     ·subst e
      have:=HY.out
      rw [this] at hz
      cases hz
      exact HCc.out
     exact A.out j z (by omega) hz
   | true=>
    have hr0:res=some y:=by rw [HRl.out];exact Hm HY.out HCc.out A.out
    subst hr0
    obtain ⟨rb',roff',u3,m3,u4,m4,he,hrb',hvy,e0,e1,e2,e3,e4⟩:=(HRs.out.below (HBr.out.thn HBc.out)).val HY.out
    simp only [Option.some.injEq,Addr.mk.injEq,and_true] at he
    obtain ⟨rfl,rfl⟩:=he
    have hZc:=kB HBc.out HZr.out
    have HZc:=Qq hZc;have HVyc:=Qq hvy
    obtain ⟨z0,z1,z2,z3,z4⟩:=row5 hZc
    obtain ⟨f0,f1,f2,f3,f4⟩:=frz5 hZc
    clear hZc hvy A
    go_wp2_with fail
    show bodyPost _ _ _ _ _ (Zz wc (w.heap.size+1) (.int .i64 y.kind) (.int .i64 y.n) (.string ⟨y.s.toArray⟩) (.slice u3 y.names.length m3) (.slice u4 y.kids.length m4))
    refine Q7 (v:=.tuple #[.agg #[.int .i64 y.kind,.int .i64 y.n,.string ⟨y.s.toArray⟩,.slice u3 y.names.length m3,.slice u4 y.kids.length m4],.bool true]) (by simp [results,results16,go_sem,Qm HZc.out]) rfl ⟨_,rfl,?_,Qo (HBw.out.thn HBc.out) (by omega)⟩
    exact Qh.move HVyc.out (fun b hb _=>Qu (by have:=hb.2;omega)) (fun b _ hb=>hb.1)
  have hkn':k=n:=by omega
  subst hkn'
  have hi3:decide (k<k)=false:=by simp
  have hr0:res=none:=by rw [HRl.out];exact Fu (fun j y hy=>A.out j y (by have:=(Qj hy).1;have:=HN.out;omega) hy)
  subst hr0
  have HZc:=HZr
  obtain ⟨z0,z1,z2,z3,z4⟩:=row5 HZr.out
  obtain ⟨f0,f1,f2,f3,f4⟩:=frz5 HZr.out
  clear A hlt
  go_wp2_with fail
  show bodyPost _ _ _ _ _ (Zz wr (w.heap.size+1) (.int .i64 0) (.int .i64 0) (.string ⟨#[]⟩) (.slice none 0 0) (.slice none 0 0))
  refine Q7 (v:=.tuple #[.agg zV,.bool false]) (by simp [results,results16,go_sem,Qm HZr.out]) rfl ⟨_,rfl,Zo _ _,Qo HBw.out (by omega)⟩
 have hr0:res=none:=by
  rw [← HRes.out]
  refine Pr ?_
  rw [HKn.out]
  cases hq:Z5 s.tables tn with
  | none=>exact .inl rfl
  | some v=>
   have h1:=HBe.out
   rw [hq] at h1
   exact .inr (by have:b=true:=h1.symm;by_cases h0:0<kn;exact absurd ⟨this,h0⟩ hrun;omega)
 subst hr0
 go_loopw [13,14] (fun i _ wr=>i=.int .i64 0∧w2=wr) (fun _ _ _=>0)
 case atStart=>exact ⟨rfl,rfl⟩
 obtain ⟨rfl,rfl⟩:=hrel
 obtain ⟨z0,z1,z2,z3,z4⟩:=row5 HZ2.out
 obtain ⟨f0,f1,f2,f3,f4⟩:=frz5 HZ2.out
 have hsp:(0<n∧b=true∧kn=0)∨(0<n∧b=false)∨n=0:=by
  by_cases h1:n=0
  ·exact .inr (.inr h1)
  cases hbq:b with
  | false=>exact .inr (.inl ⟨by omega,rfl⟩)
  | true=>exact .inl ⟨by omega,rfl,by by_cases h0:0<kn;exact absurd ⟨hbq,h0⟩ hrun;omega⟩
 clear hrun
 rcases hsp with ⟨h1,rfl,rfl⟩ | ⟨h1,rfl⟩ | rfl
 focus
  have g1:(0:Int)<(n:Int):=by omega
  have g2:decide (0<n)=true:=by simpa using h1
  go_wp2_with fail
 rotate_left
 focus
  have g1:(0:Int)<(n:Int):=by omega
  have g2:decide (0<n)=true:=by simpa using h1
  go_wp2_with fail
 rotate_left
 focus
  go_wp2_with fail
 all_goals
  show bodyPost _ _ _ _ _ (Zz w2 (w.heap.size+1) (.int .i64 0) (.int .i64 0) (.string ⟨#[]⟩) (.slice none 0 0) (.slice none 0 0))
  refine Q7 (v:=.tuple #[.agg zV,.bool false]) (by simp [results,results16,go_sem,Qm HZ2.out]) rfl ⟨_,rfl,Zo _ _,Qo HB2.out (by omega)⟩
theorem Hr (w:World) (g o:Nat) (vs:List Value) (cur:Array Value) (t:TypeId) (hg:w.heap[g]?=some (.cells cur t (0,0))) (hfit:o+vs.length≤cur.size) (h1:∀ v ∈ vs,v.oneCell'=true):
  w.setCells g o vs=w.setRow g (cur.toList.take o++vs++cur.toList.drop (o+vs.length)).toArray:=by
 have ha:=run_storeCells_at prog g o t vs 0 cur w hg (by simpa using hfit) h1
 have hb:=run_storeCells_cells (P:=prog) g o vs 0 w (fun j hj=>by rw [Qk _ _ _ _ _ _ hg,Array.getElem?_eq_getElem (by omega)];rfl) (fun j hj=>frozen_of_row _ _ _ _ _ hg) h1
 rw [ha] at hb
 simp only [Nat.add_zero] at hb
 injection hb with _ h
 exact h.symm
def zc5:Array Value:=zV
theorem zc5_one (n:Nat):∀ v ∈ (Builtin.zeroCells zc5 n).toList,v.oneCell'=true:=by
 intro v hv
 simp only [Builtin.zeroCells,Array.toList_map,List.mem_map] at hv
 obtain ⟨i,_,rfl⟩:=hv
 have h:i % zc5.size<5:=Nat.mod_lt _ (by decide)
 generalize i % zc5.size=j at h
 rcases (by omega:j=0∨j=1∨j=2∨j=3∨j=4) with h | h | h | h | h <;> subst h <;> rfl
theorem Hu (n:Nat):(Builtin.zeroCells zc5 n).toList.length=n*5:=by simp [Builtin.zeroCells];rfl
theorem Gp (w:World) (ty:TypeId) (g o m c:Nat) (cur:Array Value) (t:TypeId) (hm:0<m) (hg:w.heap[g]?=some (.cells cur t (0,0))) (hfit:o+m*5≤cur.size):
  (Builtin.clear_ #[40] ty #[.slice (some ⟨g,o,none⟩) m c]).run prog w=.ok (.tuple #[]) (w.setRow g (cur.toList.take o++(Builtin.zeroCells zc5 m).toList++cur.toList.drop (o+m*5)).toArray):=by
 obtain ⟨i0,j1,j2,j3,j4⟩:=Za (P:=prog) (t:=44) (z:=.agg zV) (n:=5) (b:=80) (by kernel_rfl)
 have hv:∀ w,(zeroValue 44).run prog w=.ok (.agg zc5) w:=fun w=>by simp [zeroValue,typeInfo,j1,j2];rfl
 have hst:=run_storeCells_at prog g o t (Builtin.zeroCells zc5 m).toList 0 cur w hg (by rw [Hu];simpa using hfit) (zc5_one m)
 simp only [Nat.add_zero,Hu] at hst
 obtain ⟨k,rfl⟩:∃ k,m=k+1:=⟨m - 1,by omega⟩
 simp [Builtin.clear_,run_underlying underlying40,hv,hst,Value.cells]
theorem N5 (k:Int) (nm:Bs) (n:Int) (s:Bs) (names binds:List Bs) (kids:List Ex) (a z:Int) (d:Nat) (ih:∀ x ∈ kids,Yc d x) (hN:Gj k nm names binds kids.length) (q0:k≠0) (q1:k≠1) (q2:k≠2) (q3:k≠3) (q11:k≠11) (q12:k≠12) (q13:k≠13) (q14:k≠14):∀ (S:Nat→Prop) (ce:List Value) (nv vv:Value) (ns:List Bs) (vs:List Val) (w:World),Z6 S w ce (.mk k nm n s names binds kids a z)→Sl Qp S w nv ns→Sl Ql S w vv vs→ns.length≤vs.length→vs.length+(d+1)≤1000→(∀ v ∈ vs,Z2 v) →
  Calls prog 140 #[.agg ce.toArray,nv,vv] w (Yi S w):=by
 intro S ce nv vv ns vs w hx0 hn0 hv0 hlen hd hb
 have hx:Z6 (fun b=>S b∧b<w.heap.size) w ce (.mk k nm n s names binds kids a z):=hx0.move (.refl _ _) (fun b hb h=>⟨h,hb⟩)
 have hn:=hn0.up
 have hv:=hv0.up
 obtain ⟨np,nc,rfl,_⟩:=hn.len
 obtain ⟨vp,vc,rfl,hvl⟩:=hv.len
 have HXX:=Qq hx
 obtain ⟨nv',bv,kv,rfl,hnm,hsx,hns,hbi,hk⟩:=Zf.1 hx
 obtain ⟨p1,c1,rfl,_⟩:=hns.len
 obtain ⟨p2,c2,rfl,_⟩:=hbi.len
 obtain ⟨p3,c3,rfl,hkl⟩:=hk.len
 have HN:=Qq hn;have HV:=Qq hv;have HBo:=Qq hb;have HNs:=Qq hns;have HBi:=Qq hbi;have HK:=Qq hk;have HI:=Qq ih;have HLen:=Qq hlen
 clear hx0 hn0 hv0 hx hn hv hns hbi hk hb ih hlen
 unfold sv at *
 have r0:(k==0)=false:=by rw [← Bool.not_eq_true,beq_iff_eq];exact q0
 have r1:(k==1)=false:=by rw [← Bool.not_eq_true,beq_iff_eq];exact q1
 have r2:(k==2)=false:=by rw [← Bool.not_eq_true,beq_iff_eq];exact q2
 have r3:(k==3)=false:=by rw [← Bool.not_eq_true,beq_iff_eq];exact q3
 have r11:(k==11)=false:=by rw [← Bool.not_eq_true,beq_iff_eq];exact q11
 have r12:(k==12)=false:=by rw [← Bool.not_eq_true,beq_iff_eq];exact q12
 have r13:(k==13)=false:=by rw [← Bool.not_eq_true,beq_iff_eq];exact q13
 have r14:(k==14)=false:=by rw [← Bool.not_eq_true,beq_iff_eq];exact q14
 clear q0 q1 q2 q3 q11 q12 q13 q14
 obtain ⟨m,hm⟩:=eX (kids.length)
 have hm1:m≤1000:=by rw [← hm];exact hN.few
 have HNo:=Qq hN
 rw [hm] at HK ⊢
 have HM:=Qq hm
 clear hm hN
 obtain ⟨i0,j1,j2,j3,j4⟩:=Za (P:=prog) (t:=44) (z:=.agg zV) (n:=5) (b:=80) (by kernel_rfl)
 have HJ:=Qq j1;have HJ2:=Qq j2;have HJ3:=Qq j3;have HJ4:=Qq j4
 clear j1 j2 j3 j4
 go_enter func140,ntmps140
 go_upto_region 31 with fail
 generalize hW1:(w.alloc _).alloc _=W1
 have hb1:=eqB hW1 (Zv _ _ _)
 have hX1:=eqH (b:=w.heap.size) hW1 (Q5 _ _ _)
 have hZ1:=eqH (b:=w.heap.size+1) hW1 (Q6 _ _ _)
 have HB1:=Qq hb1;have HX1:=Qq hX1;have HZ1:=Qq hZ1
 have hlt:=Qf hZ1
 clear hW1 hb1 hX1 hZ1
 clear r0 r1 r2 r3 r11 r12 r13 r14
 go_loopw [13,14,15,16] (fun o i _ _ wr=>∃ (j:Nat) (l:List Val) (p:Option Addr) (cap:Nat),j≤m∧i=.int .i64 j∧o=.slice p j cap∧l.length=j∧Aside (∀ v ∈ l,Z2 v)∧Below (w.heap.size+2) W1 wr ∧
  (∃ css,Own Ql 44 (fun c=>(S c∧c<w.heap.size)∨w.heap.size+2≤c) (w.heap.size+2) wr (.slice p j cap) l css)) (fun _ i _ _ _=>m - (intOf i).toNat)
 case atStart=>exact ⟨0,[],none,0,Q8 _,rfl,rfl,rfl,fun v h=>by simp at h,Qz _ _,[],Own.nil _ _ _ _ _⟩
 obtain ⟨j,l,p,cap,hj,rfl,rfl,hll,hbl,hBr,css,hO⟩:=hrel
 have hXr:=kE hBr (by omega) HX1.out
 have hZr:=kE hBr (by omega) HZ1.out
 have hbw:Below w.heap.size w wr:=HB1.out.trans (hBr.mono (by omega))
 have hsr:=hBr.size
 have HXr:=Qq hXr;have HZr:=Qq hZr;have HBr:=Qq hBr;have HBw:=Qq hbw;have HO:=Qq hO;have HBl:=Qq hbl.out;have HLL:=Qq hll
 clear hXr hZr hBr hbw hO hbl hll
 by_cases hlt2:j<m
 ·have hi1:(0:Int)≤(j:Int):=by omega
  have hi2:(j:Int)<(m:Int):=by omega
  obtain ⟨x0,hx0⟩:∃ x,kids[j]?=some x:=⟨_,Qx (by rw [HM.out];exact hlt2)⟩
  obtain ⟨kb0,ko0,ek0,es0,en0,et0,e10,f10,g10,e20,f20,g20,e30,f30,g30,ea0,ez0,hp30,hkb0,hvx0,d00,d10,d20,d30,d40,d50,d60,d70,d80⟩:=HK.out.ex hx0
  subst hp30
  have HE0:=Qq (fun W (hW:Below w.heap.size w W)=>HI.out x0 (Qy hx0) (fun b=>S b∧b<w.heap.size) _ _ _ ns vs W (hvx0.move (.of_below hW) (fun _ _ h=>h)) (HN.out.below hW) (HV.out.below hW) HLen.out (by omega) HBo.out)
  have HXx0:=Qq hvx0;have HM0:=Qq (Qy hx0)
  have DD0:=Qq (Qe hkb0 (Qe d00 (Qe d10 (Qe d20 (Qe d30 (Qe d40 (Qe d50 (Qe d60 (Qe d70 d80)))))))))
  clear hvx0 hx0 hkb0 d00 d10 d20 d30 d40 d50 d60 d70 d80
  obtain ⟨qb,q0,q1,q2,q3,q4,q5,q6,q7,q8⟩:=DD0.out
  have d00:=kD HBw.out qb q0;have d10:=kD HBw.out qb q1;have d20:=kD HBw.out qb q2;have d30:=kD HBw.out qb q3;have d40:=kD HBw.out qb q4;have d50:=kD HBw.out qb q5;have d60:=kD HBw.out qb q6;have d70:=kD HBw.out qb q7;have d80:=kD HBw.out qb q8
  clear qb q0 q1 q2 q3 q4 q5 q6 q7 q8
  have c6:=rA6 HXr.out
  go_upto_region 34 with (go_at_call 140;refine (HE0.out _ HBw.out).mono ?_;rintro e w5 ⟨k5,n5,s5,q35,m35,l35,q45,m45,l45,b5,rfl,hv5,hb5⟩;have HV5:=Qq hv5;have HB5:=Qq hb5;clear hv5 hb5)
  clear c6 d00 d10 d20 d30 d40 d50 d60 d70 d80
  generalize hW6:w5.alloc _=W6
  have hb6:=eqB hW6 (Qn _ _)
  have hV6:=eqH (b:=w5.heap.size) hW6 (Qw _ _)
  have HB6:=Qq (HB5.out.thn hb6);have HVB6:=Qq hV6;have HVX6:=Qq hb6
  clear hW6 hb6 hV6
  have hsz6:=HB6.out.size
  have hbw6:=HBw.out.thn HB6.out
  have HBw6:=Qq hbw6
  clear hbw6
  cases b5 with
  | false=>
   obtain ⟨v0,v1,v2,v3,v4⟩:=row5 HVB6.out
   have hZW6:=kB HB6.out HZr.out
   obtain ⟨y0,y1,y2,y3,y4⟩:=row5 hZW6
   obtain ⟨f0,f1,f2,f3,f4⟩:=frz5 hZW6
   have HZW6:=Qq hZW6
   clear hZW6
   go_wp2_with fail
   show bodyPost _ _ _ _ _ (Zz W6 (w.heap.size+1) (.int .i64 k5) (.int .i64 n5) (.string s5) (.slice q35 m35 l35) (.slice q45 m45 l45))
   refine Q7 (v:=.tuple #[.agg #[.int .i64 k5,.int .i64 n5,.string s5,.slice q35 m35 l35,.slice q45 m45 l45],.bool false]) (by simp [results,results140,go_sem,Qm HZW6.out]) rfl (Yf (by omega) HBw6.out)
  | true=>
   obtain ⟨u,hvx,hvb⟩:=HV5.out rfl
   have hO5:=HO.out.below HB6.out
   have hV6:Ql.R (But (fun c=>(S c∧c<w.heap.size)∨w.heap.size+2≤c) (.slice p j cap)) W6 [.int .i64 k5,.int .i64 n5,.string s5,.slice q35 m35 l35,.slice q45 m45 l45] u:=Qh.move hvx (.of_below HVX6.out) (fun b hb hc=>by
    rcases hc with h | h
    ·exact ⟨.inl h,fun e=>by have:=(HO.out.row.lt b e.symm).1;have:=h.2;omega⟩
    have h':wr.heap.size≤b:=h
    exact ⟨.inr (by omega),fun e=>by have:=(HO.out.row.lt b e.symm).2;omega⟩)
   have HO5:=Qq hO5;have HV6:=Qq hV6;have HVb:=Qq hvb
   clear hO5 hV6 hvx hvb
   obtain ⟨v0,v1,v2,v3,v4⟩:=row5 HVB6.out
   go_wp2_with (at_builtin;refine Zm (r:=Ql) (by decide) rfl (.tmp 160) (.tmp 162) _ rfl 44 i0 (.agg zV) 80 underlying40 HJ.out HJ2.out HJ3.out HJ4.out rfl (by omega) (fun c=>(S c∧c<w.heap.size)∨w.heap.size+2≤c) (w.heap.size+2) W6 (.slice p j cap) l css [.int .i64 k5,.int .i64 n5,.string s5,.slice q35 m35 l35,.slice q45 m45 l45] u rfl HO5.out rfl HV6.out (by simp [Value.oneCell']) j HLL.out (by omega) (by omega) ?_;intro p7 cap7 css7 w7 hO7 hL7;have HO7:=Qq hO7;have HL7:=Qq hL7;clear hO7 hL7)
   go_roundw
   case measure=>simp [intOf];omega
   case rel=>
    refine ⟨j+1,l++[u],p7,cap7,by omega,by go_num,rfl,by have:=HLL.out;simp [this],(show Aside _ from ?_),(HBr.out.trans (HB6.out.mono (by omega))).trans HL7.out.below,css7,HO7.out⟩
    intro v hv
    rcases List.mem_append.1 hv with h | h
    ·exact HBl.out v h
    simp only [List.mem_cons,List.not_mem_nil,or_false] at h
    subst h;exact HVb.out
 have hjm:j=m:=by omega
 subst hjm
 have hE:=Qq (Nr k nm n s names binds kids a z (fun c=>(S c∧c<w.heap.size)∨w.heap.size+2≤c) [.int .i64 k,.string ⟨nm.toArray⟩,.int .i64 n,.string ⟨s.toArray⟩,.slice p1 names.length c1,.slice p2 binds.length c2,.slice p3 j c3,.int .i64 a,.int .i64 z] (.slice p j cap) l wr HNo.out (by
  have h:=HXX.out.move (S':=(fun c=>(S c∧c<w.heap.size)∨w.heap.size+2≤c)) (.of_below HBw.out) (fun _ _ h=>.inl h)
  rw [HM.out] at h
  exact h) (by rw [HLL.out,HM.out]) (HLL.out ▸ HO.out.sl (by have:=HLL.out;omega) (fun b hb=>.inr hb) (fun b _ h=>h)) HBl.out)
 obtain ⟨c0,c1,c2,c3,c4,c5,c6,c7,c8⟩:=row9 HXr.out
 go_wp2_with (go_at_call 182;refine hE.out.mono ?_;rintro e w7 ⟨k7,n7,s7,q37,m37,l37,q47,m47,l47,b7,rfl,hv7,hb7⟩;have hZ7:=kB hb7 HZr.out;have f0:=fA 0 hZ7;have y0:=Qk _ _ 0 _ _ _ hZ7;have f1:=fA 1 hZ7;have y1:=Qk _ _ 1 _ _ _ hZ7;have f2:=fA 2 hZ7;have y2:=Qk _ _ 2 _ _ _ hZ7;have f3:=fA 3 hZ7;have y3:=Qk _ _ 3 _ _ _ hZ7;have f4:=fA 4 hZ7;have y4:=Qk _ _ 4 _ _ _ hZ7;simp only [List.getElem?_toArray,List.getElem?_cons_zero,List.getElem?_cons_succ] at y0 y1 y2 y3 y4;have HZ7:=Qq hZ7;have HV7:=Qq hv7;have HB7:=Qq hb7;clear hv7 hb7 hZ7)
 show bodyPost _ _ _ _ _ (Zz w7 (w.heap.size+1) (.int .i64 k7) (.int .i64 n7) (.string s7) (.slice q37 m37 l37) (.slice q47 m47 l47))
 refine Q7 (v:=.tuple #[.agg #[.int .i64 k7,.int .i64 n7,.string s7,.slice q37 m37 l37,.slice q47 m47 l47],.bool b7]) (by simp [results,results140,go_sem,Qm HZ7.out]) rfl (J4 (by omega) (HBw.out.thn HB7.out) (fun hb=>by
   obtain ⟨v,h1,h2⟩:=HV7.out hb
   refine ⟨v,h1.move (.refl _ _) (fun c _ hc=>?_),h2⟩
   rcases hc with (hc | hc) | hc
   ·exact .inl hc
   ·exact .inr (by omega)
   exact .inr (by have h':wr.heap.size≤c:=hc;omega)))
end Go.Proofs.YtppbaladeefnkaaGreatDoor
