import Derived.Test.YtdpibdpbgokmoaaGreatDoorC23
import Derived.Test.YtdpibdpbgokmoaaGreatDoorC25
set_option maxRecDepth 100000
set_option maxHeartbeats 400000000
namespace Go.Proofs.YtdpibdpbgokmoaaGreatDoor
open Go.RowKit Go.Shelf Go.Lib Tryz
theorem Mn {T:Type} {p:T→Bool} {xs:List T} {k:Nat} {x:T} (hx:xs[k]?=some x) (hp:p x=true) (hne:∀ (j:Nat) (y:T),j<k→xs[j]?=some y→p y=false):atP p xs=some x:=by
 have h:=K8 hx hp hne
 rcases Ve p xs with ⟨A,_⟩ | ⟨i,y,A,h2,h3⟩
 ·rw [h] at A;omega
 rw [h] at A
 have:k=i:=Qqj
 subst this
 rw [hx] at h2;cases h2;exact h3
theorem Hd {T:Type} {p:T→Bool} {xs:List T} (hne:∀ (j:Nat) (y:T),xs[j]?=some y→p y=false):atP p xs=none:=by
 have h:=Uc hne
 rcases Ve p xs with ⟨_,h2⟩ | ⟨i,y,h1,_,_⟩
 ·exact h2
 rw [h] at h1;omega
theorem Ay {s:Sc} {l:List Rel} {tn:Bs} {key:List Val} (h:Y0 s.tables tn=none∨key.length=0):Jj s l tn key=none:=by
 unfold Jj
 rcases h with h | h
 ·rw [h]
 split
 ·rw [if_pos h]
 rfl
theorem Cc {s:Sc} {l:List Rel} {tn:Bs} {key:List Val} {T:Tbl} (h:Y0 s.tables tn=some T) (hk:0<key.length):Jj s l tn key=atP (lkP T.key key) (Vb l tn):=by
 unfold Jj
 rw [h]
 rcases K9 l tn with ⟨G,D⟩ | ⟨i,r,G,D,h3⟩
 ·have:atP (fun r=>decide (r.table=tn)) l=none:=by
   rcases Ve (fun r:Rel=>decide (r.table=tn)) l with ⟨_,A⟩ | ⟨i,y,A,_,_⟩
   ·exact A
   rw [D] at A;omega
  rw [this]
  unfold Vb;rw [G];rfl
 have:atP (fun r=>decide (r.table=tn)) l=some r:=by
  rcases Ve (fun r:Rel=>decide (r.table=tn)) l with ⟨A,_⟩ | ⟨j,y,A,h5,h6⟩
  ·rw [D] at A;omega
  rw [D] at A
  have:i=j:=Qqj
  subst this
  rw [h3] at h5;cases h5;exact h6
 rw [this]
 simp only
 rw [if_neg Qqj]
 unfold Vb;rw [G];simp [h3]
def RLookIs (S:Nat→Prop) (w:World) (o:Option Val) (e:Ending) (w':World):Prop:=
 ∃ cs',e=.returned (.tuple #[.agg cs'.toArray,.bool o.isSome])∧Z9 S w' cs' (o.getD Val.zero)∧Below w w w'
theorem O7 (S0 S1 S2:Nat→Prop) (s:Sc) (cs:List Value) (lv:Value) (l:List Rel) (tn:Bs) (kv:Value) (key:List Val) (w:World) (hs:Xu S0 w cs s) (hl0:Sl Y7 S1 w lv l) (hkv0:Sl Ze S2 w kv key) (hkl:∀ t ∈ s.tables,t.key.length≤1000):
  Calls prog 44 #[cs,lv,sv tn,kv] w (RLookIs S1 w (Jj s l tn key)):=by
 have hl:=hl0.up
 have HT:=Qq (fun W (hb:Below w w W)=>Hm S0 s cs tn W (hs.below hb))
 have bE:=Qq (fun W (hb:Below w w W)=>Ln _ lv l tn W (hl.below hb))
 have bP:=Qq hkv0
 obtain ⟨uv,tv,rfl,hu,ht⟩:=hs
 obtain ⟨up,uc,rfl,_⟩:=hu.len
 obtain ⟨tp,tc,rfl,_⟩:=ht.len
 obtain ⟨kp,kc,rfl,cI⟩:=hkv0.len
 obtain ⟨rows,M⟩:=eX (Vb l tn)
 rw [M] at bE
 have bF:=Qq M
 obtain ⟨res,Z⟩:=eX (Jj s l tn key)
 rw [Z]
 have aY:=Qq Z
 have cC:((Y0 s.tables tn).getD Tbl.zero).key.length≤1000:=by
  cases h:Y0 s.tables tn with
  | none=>exact Q8 _
  | some t=>exact hkl t (List.mem_of_find?_eq_some h)
 obtain ⟨T,hT⟩:=eX ((Y0 s.tables tn).getD Tbl.zero)
 obtain ⟨b,hb⟩:=eX ((Y0 s.tables tn).isSome)
 have cY:=Qq hT;have bN:=Qq hb
 rw [hT] at cC
 obtain ⟨kn,bJ⟩:=eX (key.length)
 rw [bJ] at bP cI ⊢
 have bQ:=Qq bJ
 unfold TabIs at HT
 rw [hT,hb] at HT
 clear hu ht hl0 hl hkv0 M Z hT hb hkl bJ
 unfold sv at HT bE ⊢
 go_enter func44,ntmps44
 go_wp2_with fail
 refine (HT.out _ (Zt _ _ _)).mono ?_
 rintro e w1 ⟨ct,rfl,bK,bI⟩
 obtain ⟨aJ,aI,aN,aM,aV,aU,k9,aW,n9,aX,aR,aO,aF,aS,aP,aG,aT,aQ,aH,a9,z9,cH,_⟩:=Yj bK
 have bU:=Qq bK
 simp only [tcs] at cH
 subst cH
 have bH:=(bI.block (w+1) Qqk).trans (Q6 w _ _)
 have cW:=Qq ((Zt w _ _).thn bI);have bY:=Qq bH
 have bB:=Z8 bH
 clear bK bI bH HT
 go_upto_region 2 with fail
 obtain ⟨X,hX⟩:=eX (w1.heap.size)
 generalize bG:w1.alloc (.cells (Qqh T aJ aI aN aM aV aU k9 aW n9 aX aR aO aF aS aP aG aT aQ aH a9 z9) 48)=w2
 have aL:=eqB bG (Zg _ _)
 have cD:w2.heap[X]?=some (.cells (Qqh T aJ aI aN aM aV aU k9 aW n9 aX aR aO aF aS aP aG aT aQ aH a9 z9) 48 (0,0)):=by rw [← bG,← hX];exact Qw _ _
 have cE:=kE aL bB bY.out
 obtain ⟨bC,bX,aE⟩:=Qqo (cW.out.thn aL) cD cE
 have bV:=Qq (Zn.frame bU.out (.of_below aL))
 rw [hX] at bB ⊢
 clear bG aL cD cE hX bY bU
 have dK:=Z8 bX.out
 go_wp2_with (go_at_call 67;refine (bE.out _ bC.out).mono ?_;rintro e w' ⟨rp,rc,rfl,cL,rfl⟩;have aD:=Qq cL;clear cL)
 obtain ⟨n,hn⟩:=eX (rows.length)
 obtain ⟨_,_,_,dN⟩:=aD.out.len
 rw [hn] at aD dN ⊢
 have HN:=Qq hn
 clear hn
 by_cases hrun:b=true∧0<kn
 ·obtain ⟨rfl,bA⟩:=hrun
  have aA:Y0 s.tables tn=some T:=by
   have O:=bN.out;have h2:=cY.out
   cases hq:Y0 s.tables tn with
   | none=>rw [hq] at O;cases O
   | some v=>rw [hq] at h2;rw [← h2];rfl
  have cK:res=atP (lkP T.key key) rows:=by rw [← aY.out,Cc aA (by rw [bQ.out];exact bA),bF.out]
  have bR:=Qq cK
  have dT:(0:Int)<(kn:Int):=Qqj
  have dU:decide (0<kn)=true:=by simpa using bA
  clear aA cK
  go_loopw [13,14] (fun i _ wr=>∃ k:Nat,k≤n∧i=.int .i64 k∧Aside (∀ (j:Nat) (y:Val),j<k→rows[j]?=some y→lkP T.key key y=false)∧Aside (Below w2 w2 wr)) (fun i _ _=>n - (intOf i).toNat)
  case atStart=>exact ⟨0,Q8 _,rfl,fun j _ hj=>absurd hj (Z6 _),Qz _ _⟩
  obtain ⟨k,hk,rfl,A,cA⟩:=hrel
  have I:=Qq (show Below w2 w2 wr from cA)
  have bD:=Qq (bC.out.thn I.out)
  clear cA
  have dA:=Qq (kE I.out dK bX.out);have N:=Qq (kB I.out aE.out)
  have dY:=I.out.size
  by_cases U:k<n
  ·have dW:(0:Int)≤(k:Int):=Qqj
   have dX:(k:Int)<(n:Int):=Qqj
   have dL:decide (k<n)=true:=by simpa using U
   obtain ⟨y,hy⟩:∃ y,rows[k]?=some y:=⟨_,Qx (by rw [HN.out];exact U)⟩
   obtain ⟨rb,cM,q3,l3,q4,l4,rfl,Y,aB,e0,e1,e2,e3,e4⟩:=(aD.out.below I.out).val hy
   have cZ:=Qq aB;have HY:=Qq hy
   obtain ⟨x0,x1,x2,x3,x4,x5,x6,x7,x8,x9,cN,cO,cP⟩:=row13 dA.out
   go_upto_region 6 with fail
   refine let_mvar% ?Lq1:=fun w':World=>(Qzb w' X T.name (.slice aJ T.columns.length aI) (.slice aN T.key.length aM) (.slice aV T.refs.length aU) k9 (.string aW) n9 (.string aX) (.slice aR aO aF) (.slice aS aP aG) (.slice aT aQ aH) a9 z9 ((Qzc w' rb (cM+k*5) y.kind y.n y.s (.slice q3 y.names.length l3) (.slice q4 y.kids.length l4) (Below wr wr w'):Prop)):Prop);?_
   have HS:∀ w',Below wr wr w'→?Lq1 w':=by
    intro w' h
    have G:∀ {b j:Nat} {u:Value},b<wr→wr.cell? ⟨b,j,none⟩=some u→w'.cell? ⟨b,j,none⟩=some u:=fun U hc=>kD h U hc
    have D:X<wr.heap.size:=Qqj
    exact ⟨G D x0,G D x1,G D x2,G D x3,G D x4,G D x5,G D x6,G D x7,G D x8,G D x9,G D cN,G D cO,G D cP,G Y e0,G Y e1,G Y e2,G Y e3,G Y e4,h⟩
   have J:∀ w',?Lq1 w'→Below wr wr w':=fun w' h=>h.2.2.2.2.2.2.2.2.2.2.2.2.2.2.2.2.2.2
   have HC:=Qq (fun W' (h':?Lq1 W')=>(Fh S0 (fun b=>S1 b∧b<w) T y (Qqh T aJ aI aN aM aV aU k9 aW n9 aX aR aO aF aS aP aG aT aQ aH a9 z9) (Qqg y q3 l3 q4 l4) W' (Zn.frame bV.out (.of_below (I.out.thn (J _ h')))) (cZ.out.move (.of_below (J _ h')) Qzx) cC).mono (R':=fun e w2=>∃ p n cap,e=.returned (.slice p n cap)∧Sl Ze (fun _=>True) w2 (.slice p n cap) ((keyOf T.key y).getD [])∧?Lq1 w2) (by
    rintro e w2 ⟨p,cap,rfl,h3,h4⟩
    exact ⟨p,_,cap,rfl,h3.mono (fun _ _ _=>trivial),HS _ ((J _ h').thn h4)⟩))
   have HE:=Qq (fun W' p n cap (h':?Lq1 W') (h2:Sl Ze (fun _=>True) W' (.slice p n cap) ((keyOf T.key y).getD []))=>(Ll (fun _=>True) S2 (.slice p n cap) (.slice kp kn kc) ((keyOf T.key y).getD []) key W' h2 (bP.out.below (bD.out.thn (J _ h')))).mono (R':=fun e w2=>e=.returned (.bool (lkP T.key key y))∧?Lq1 w2) (by
    rintro e w2 ⟨rfl,h4⟩
    exact ⟨rfl,HS _ ((J _ h').thn h4.bl)⟩))
   have bS:=Qq (HS wr.drew (Qz _ _).drew);have aZ:=Qq J
   obtain ⟨c,hc⟩:=eX (lkP T.key key y)
   rw [hc] at HE
   have bO:=Qq hc
   clear HS J aB hy hc x0 x1 x2 x3 x4 x5 x6 x7 x8 x9 cN cO cP e0 e1 e2 e3 e4
   go_cut [14] from 24 to 50 (fun dS wx=>dS=.bool c∧Aside (Below wr wr wx))
   case first=>
    go_region_held3 ?Lq1 (first | with_reducible exact bS.out | with_reducible exact dI | with_reducible exact cB)
     (first
      | (go_at_call 42;refine (HC.out _ Qqw).mono ?_;rintro e w5 ⟨eB,eA,dZ,rfl,dM,dI⟩)
      | (go_at_call 41;refine (HE.out _ _ _ _ Qqw dM).mono ?_;rintro e w6 ⟨rfl,cB⟩))
    all_goals
     go_wp2_with fail
     go_meet
     exact ⟨rfl,aZ.out _ cB⟩
   obtain ⟨rfl,cF⟩:=hcut
   have aC:=Qq (show Below wr wr wc from cF)
   clear cF HC HE bS aZ
   cases c with
   | false=>
    go_wp2_with fail
    go_roundw
    case measure=>simp [intOf];omega
    case rel=>
     refine ⟨k+1,Qqj,by go_num,(show Aside _ from fun j z hj hz=>?_),I.out.thn aC.out⟩
     by_cases e:j=k
     ·subst e
      have:=HY.out
      rw [this] at hz
      cases hz
      exact bO.out
     exact A.out j z Qqj hz
   | true=>
    have V:res=some y:=by rw [bR.out];exact Mn HY.out bO.out A.out
    subst V
    obtain ⟨eC,dR,u3,m3,u4,m4,he,dV,aB,e0,e1,e2,e3,e4⟩:=(aD.out.below (I.out.thn aC.out)).val HY.out
    simp only [Zv,Addr.mk.injEq,and_true] at he
    obtain ⟨rfl,rfl⟩:=he
    have aK:=kB aC.out N.out
    have bZ:=Qq aK;have bW:=Qq aB
    obtain ⟨z0,z1,z2,z3,z4⟩:=row5 aK
    obtain ⟨f0,f1,f2,f3,f4⟩:=frz5 aK
    clear aK aB A
    go_wp2_with fail
    show bodyPost _ _ _ _ _ (Qqm wc (w+1) y u3 m3 u4 m4)
    refine Q7 (v:=.tuple #[.agg (Qqg y u3 m3 u4 m4),.bool true]) (by simp [results,results44,go_sem,Zd bZ.out]) rfl ⟨_,rfl,?_,Zc (bD.out.thn aC.out) Qqj⟩
    exact Z9.move bW.out (fun b hb _=>Zf (by have:=hb.2;omega)) (fun b _ hb=>hb.1)
  have cJ:k=n:=Qqj
  subst cJ
  have dL:decide (k<k)=false:=Qqk
  have V:res=none:=by rw [bR.out];exact Hd (fun j y hy=>A.out j y (by have:=(Qj hy).1;have:=HN.out;omega) hy)
  subst V
  have bZ:=N
  obtain ⟨z0,z1,z2,z3,z4⟩:=row5 N.out
  obtain ⟨f0,f1,f2,f3,f4⟩:=frz5 N.out
  clear A U
  go_wp2_with fail
  show bodyPost _ _ _ _ _ (Zl wr (w+1) Qqd Qqd Qqe Qqf Qqf)
  refine Q7 (v:=.tuple #[.agg zV,.bool false]) (by simp [results,results44,go_sem,Zd N.out]) rfl ⟨_,rfl,Yw _ _,Zc bD.out Qqj⟩
 have V:res=none:=by
  rw [← aY.out]
  refine Ay ?_
  rw [bQ.out]
  cases hq:Y0 s.tables tn with
  | none=>exact .inl rfl
  | some v=>
   have O:=bN.out
   rw [hq] at O
   exact .inr (by have:b=true:=O.symm;by_cases h0:0<kn;exact absurd ⟨this,h0⟩ hrun;omega)
 subst V
 go_loopw [13,14] (fun i _ wr=>i=.int .i64 0∧w2=wr) (fun _ _ _=>0)
 case atStart=>exact ⟨rfl,rfl⟩
 obtain ⟨rfl,rfl⟩:=hrel
 obtain ⟨z0,z1,z2,z3,z4⟩:=row5 aE.out
 obtain ⟨f0,f1,f2,f3,f4⟩:=frz5 aE.out
 have dP:(0<n∧b=true∧kn=0)∨(0<n∧b=false)∨n=0:=by
  by_cases O:n=0
  ·exact .inr (.inr O)
  cases hbq:b with
  | false=>exact .inr (.inl ⟨Qqj,rfl⟩)
  | true=>exact .inl ⟨Qqj,rfl,by by_cases h0:0<kn;exact absurd ⟨hbq,h0⟩ hrun;omega⟩
 clear hrun
 rcases dP with ⟨O,rfl,rfl⟩ | ⟨O,rfl⟩ | rfl
 focus
  have g1:(0:Int)<(n:Int):=Qqj
  have g2:decide (0<n)=true:=by simpa using O
  go_wp2_with fail
 rotate_left
 focus
  have g1:(0:Int)<(n:Int):=Qqj
  have g2:decide (0<n)=true:=by simpa using O
  go_wp2_with fail
 rotate_left
 focus
  go_wp2_with fail
 all_goals
  show bodyPost _ _ _ _ _ (Zl w2 (w+1) Qqd Qqd Qqe Qqf Qqf)
  refine Q7 (v:=.tuple #[.agg zV,.bool false]) (by simp [results,results44,go_sem,Zd aE.out]) rfl ⟨_,rfl,Yw _ _,Zc bC.out Qqj⟩
def N3 (n1 n2:Bs) (r0 r1:Option Val) (r2:Val→Option Val):Option Val:=match r0 with
 | some v=>if v.kind=3 then (if v.s=n1 then r1 else if v.s=n2 then (match v.kids with
  | [x]=>r2 x
  | _=>none) else none) else none
 | none=>none
theorem idx_two {n1 n2 x:Bs}:V5 (fun y=>decide (y=x)) [n1,n2]=if n1=x then 0 else if n2=x then 1 else -1:=by
 unfold V5
 simp only [List.findIdx?_cons,List.findIdx?_nil]
 by_cases h1:n1=x
 ·simp [h1]
 by_cases h2:n2=x
 ·subst h2;simp [h1]
 simp [h1,h2]
theorem ev_match (nm:Bs) (n:Int) (s:Bs) (n1 n2 b2:Bs) (x y t:Ex) (a z:Int) (env:List (Bs × Val)) (r0 r1:Option Val) (r2:Val→Option Val) (hne:b2≠[]) (hx:EvO x env r0) (hy:EvO y env r1) (ht:∀ u,EvO t ((b2,u)::env) (r2 u)):EvO (.mk 13 nm n s [n1,n2] [[],b2] [x,y,t] a z) env (N3 n1 n2 r0 r1 r2):=by
 obtain ⟨R,M⟩:=eX (N3 n1 n2 r0 r1 r2)
 rw [M]
 intro S0 S' cs p w bL cL cK cI
 have bX:=Qq cL
 clear cL
 have he:Xv (fun b=>S0 b∧b<w) w p env:=cI.move (.refl _ _) (fun b hb h=>⟨h,hb⟩)
 obtain ⟨nv,bv,kv,rfl,dZ,eA,hn,hb,hk⟩:=Yx.1 cK
 obtain ⟨np,nc,rfl,_⟩:=hn.len
 obtain ⟨bp,bc,rfl,_⟩:=hb.len
 obtain ⟨kp,kc,rfl,dK⟩:=hk.len
 obtain ⟨q,rfl⟩:=he.ptr
 obtain ⟨HE,HK,bY,bE⟩:=Qqp he hk hn hb
 obtain ⟨kl,U⟩:=eX ([x,y,t].length)
 rw [U] at HK dK
 have aR:=Qq U
 clear cK he cI hn hb hk
 unfold sv
 rw [U]
 clear U
 go_enter func91,ntmps91
 go_upto_region 3 with fail
 generalize aC:((w.alloc _).alloc _).alloc _=T
 have I:=eqB aC (Xm _ _ _ _)
 have h0:=eqH (b:=w.heap.size) aC (Zp _ _ _ _)
 have h1:=eqH (b:=w.heap.size+1) aC (Zo _ _ _ _)
 have h2:=eqH (b:=w.heap.size+1+1) aC (Zi _ _ _ _)
 have eB:w.heap.size+1+1<T.heap.size:=Z8 h2
 have c0:=rA0 h0;have c1:=rA1 h0;have c2:=rA2 h0;have c3:=rA3 h0;have c4:=rA4 h0;have c5:=rA5 h0;have c6:=rA6 h0
 obtain ⟨H0,H1,H2,aM⟩:=Qqp h0 h1 h2 I
 have aB:=Qq (fun (k:Nat) e9 r9 (hke:[x,y,t][k]?=some e9) (hev:EvO e9 env r9) W (hbw:Below T T W) (x9:Nat) (hxl:w≤x9) (hxW:x9<W)=>Kl w (w+1) k (fun b=>S0 b∧b≠w+1+1∧b≠x9) S' kp kc [x,y,t] e9 (.pointer q) env r9 W
  (by rw [aR.out];exact (Qk _ _ 6 _ _ _ (kB hbw h0)).trans rfl) (by rw [aR.out];exact (HK.out.below I).below hbw) ((Qk _ _ 0 _ _ _ (kB hbw h1)).trans rfl) (fun b hb=>⟨bL b (Qqz I.size hbw.size),by have:=hbw.size;omega,Qqj⟩) (bX.out.below (I.thn hbw)) ((HE.out.move (.of_below I) Qzx).move (.of_below hbw) (fun b _ h=>⟨h.1,by have:=h.2;omega,by have:=h.2;omega⟩)) hke hev)
 have aA:Hid (∀ W,Below T T W→Calls prog 132 #[Qqd,Qqc w,Qqc (w+1)] W (Xy (fun b=>S0 b∧b≠w+1+1∧b≠w+1) W r0)):=Qq (fun W hW=>aB.out 0 x r0 rfl hx W hW (w+1) Qqj (Qqq hW.size))
 have bV:Hid (∀ W,Below T T W→Calls prog 132 #[.int .i64 1,Qqc w,Qqc (w+1)] W (Xy (fun b=>S0 b∧b≠w+1+1∧b≠w+1+1) W r1)):=Qq (fun W hW=>aB.out 1 y r1 rfl hy W hW (w+1+1) Qqj (Qqq hW.size))
 have bU:=Qq (fun (v:Bs) W (hW:Below T T W)=>Fb S' (.slice np 2 nc) [n1,n2] v W ((bY.out.below I).below hW))
 unfold sv at bU
 obtain ⟨bb,dR,dI,aF,_⟩:=(bE.out.below I).str (i:=0) (x:=[]) rfl
 obtain ⟨dU,dF,aZ,aY,aX⟩:=(bE.out.below I).str (i:=1) (x:=b2) rfl
 subst dI
 simp only [Zv,Addr.mk.injEq,and_true] at aZ
 obtain ⟨rfl,rfl⟩:=aZ
 rw [Nat.add_zero] at aF
 obtain ⟨cZ,bT,HT,cA⟩:=Qqp hne aX ht bL
 have HC:=Qq (fun W (h:Below T T W)=>Qe (kC h c4) (Qe (kC h c5) (Qe (kC h aF) (kC h aY))))
 clear h0 h1 h2 I aC aB hx hy ht hne aX bL c1 c2 c3 c4 c5 c6 bY bE aF aY
 cases r0 with
 | none=>
  obtain rfl:none=R:=M
  go_wp2_with (go_at_call 132;refine (aA.out _ (Qz _ _)).mono ?_;rintro e w4 ⟨rfl,hb⟩)
  exact ⟨rfl,rfl,aM.out.thn hb⟩
 | some u=>
  by_cases hk:u.kind=3
  ·have aS:=Qq (fun cu W (hu:Z9 (fun b=>S0 b∧b≠w+1+1∧b≠w+1) W cu u)=>Hc 3 _ u cu W hu hk)
   have A:(if u.s=n1 then r1 else if u.s=n2 then (match u.kids with | [x]=>r2 x | _=>none) else none)=R:=by rw [← M];unfold N3;dsimp only;rw [if_pos hk]
   clear M hk
   go_upto_region 48 with (first
    | (go_at_call 131;refine (aS.out _ _ HU.out).mono ?_;rintro e w5 ⟨rfl,hb⟩;have cC:=Qq (Z9.move HU.out (.of_below hb) Qzx);have cW:=Qq (Z.out.thn hb);clear hb;clear aS)
    | (go_at_call 132;refine (aA.out _ (Qz _ _)).mono ?_;rintro e w4 ⟨cu,rfl,hu,hb⟩;obtain ⟨a3,dD,a4,dE,D,_⟩:=Z9.cells hu;simp only [vcs] at D;subst D;have HU:=Qq hu;have Z:=Qq ((Qz T T).thn hb);clear hu hb;clear aA))
   generalize bN:World.alloc w5 _=Y
   have bP:=eqB bN (Zg _ _)
   have bO:=eqH (b:=w5.heap.size) bN (Qw _ _)
   have x2:=rA2 bO;have x4:=rA4 bO
   have G:=Qq (cW.out.thn bP)
   have cD:=Qq (Z9.move cC.out (.of_below bP) Qzx)
   have bI:=Qq (kB G.out H2.out)
   have aP:=Qq (aM.out.thn G.out)
   obtain ⟨d4,d5,q0,q1⟩:=HC.out Y G.out
   have HI:=Qq (bU.out u.s Y G.out)
   rw [idx_two] at HI
   have eC:w.heap.size+1+1<Y.heap.size:=Z8 bI.out
   clear bN bP bO
   by_cases hs1:n1=u.s
   ·rw [if_pos hs1.symm] at A
    obtain rfl:r1=R:=A
    rw [if_pos hs1] at HI
    have HM:=Qq X8
    clear hs1 x4
    go_wp2_with (first
     | (go_at_call 134;refine (HM.out _).mono ?_;rintro e w' ⟨rfl,rfl⟩)
     | (go_at_call 139;refine HI.out.mono ?_;rintro e w' ⟨rfl,rfl⟩))
    cases r1 with
    | none=>
     refine (bV.out _ G.out).mono ?_
     rintro e w8 ⟨rfl,bQ⟩
     exact ⟨rfl,rfl,aP.out.thn bQ⟩
    | some r=>
     refine (bV.out _ G.out).mono ?_
     rintro e w4 ⟨cr,rfl,O,N⟩
     obtain ⟨q3,l3,q4,l4,D,_⟩:=Z9.cells O
     simp only [vcs] at D
     subst D
     have M:=kB N bI.out
     have bD:=Qq (aP.out.thn N)
     have bH:=Qq O
     have HR:=Qq M
     have fz:=fun j=>Qn _ _ j _ _ M
     obtain ⟨f0,f1,f2,f3,f4⟩:=Qzj fz
     have rr:=fun j=>Qk _ _ j _ _ _ M
     obtain ⟨r0,r1,r2,r3,r4⟩:=Qzj rr
     simp only [Qf,Qg,Qh] at r0 r1 r2 r3 r4
     clear fz rr O N M
     go_wp2_with fail
     show bodyPost _ _ _ _ _ (Qqm w4 (w+1+1) r q3 l3 q4 l4)
     refine Q7 (v:=.agg (Qqg r q3 l3 q4 l4)) (by simp [results,results91,go_sem,Zd HR.out]) rfl ⟨_,rfl,?_,Zc bD.out Qqj⟩
     exact Z9.move bH.out (fun b hb _=>Zf (by have:=hb.2.1;omega)) (fun _ _ h=>h.1)
   rw [if_neg (fun e=>hs1 e.symm)] at A
   rw [if_neg hs1] at HI
   by_cases hs2:n2=u.s
   ·rw [if_pos hs2.symm] at A
    rw [if_pos hs2] at HI
    have dV:(!List.isEmpty b2)=true:=by have h:=cZ.out;cases b2 with | nil=>exact absurd rfl h | cons _ _=>rfl
    by_cases hl:u.kids.length=1
    ·obtain ⟨x0,cM⟩:∃ x0,u.kids=[x0]:=List.length_eq_one_iff.1 hl
     rw [cM] at A
     have bZ:=Qq (show r2 x0=R from A)
     clear A
     obtain ⟨eH,eF,eI,eG,bA,_,cG,_⟩:=Z9.cells cD.out
     simp only [vcs,List.cons.injEq,Qr,and_true,true_and] at bA
     obtain ⟨⟨rfl,rfl⟩,rfl,rfl⟩:=bA
     obtain ⟨kb,dT,dN,rfl,dX,dW,_,bR,V⟩:=cG.elem (i:=0) (x:=x0) (by rw [cM];rfl)
     obtain ⟨z3,aI,z4,aJ,bB,_⟩:=Z9.cells (show Z9 _ _ dN x0 from bR)
     simp only [vcs] at bB
     subst bB
     have y0:=V 0 _ rfl;have y1:=V 1 _ rfl;have y2:=V 2 _ rfl;have y3:=V 3 _ rfl;have y4:=V 4 _ rfl
     simp only [show Ze.k=5 from rfl,Nat.add_zero,Nat.zero_mul] at y0 y1 y2 y3 y4
     rw [hl] at x4
     have v0:=rA0 ((kB G.out H1.out))
     have HM:=Qq X8
     have bW:=Qq (show Z9 _ Y (vcs x0 z3 aI z4 aJ) x0 from bR)
     clear hs1 hs2 bR V cG hl cD cC HU
     go_upto_region 52 with (first
      | (go_at_call 134;refine (HM.out _).mono ?_;rintro e w' ⟨rfl,rfl⟩)
      | (go_at_call 139;refine HI.out.mono ?_;rintro e w' ⟨rfl,rfl⟩))
     go_still_tail 10,Qqy
     change wpList _ _ _ _ _ Y.drew
     have aO:=Qq (show Below Y Y Y.drew from (Qz _ _).drew)
     generalize Y.drew=w7 at aO
     clear x2 x4 y0 y1 y2 y3 y4 v0 d4 d5 q0 q1
     have aU:∀ o,(World.alloc w7 o).heap[w.heap.size+1]?=some (.cells #[.pointer q] 122 (0,0)):=fun o=>((G.out.thn (aO.out.thn (Zg w7 o))).block _ (Z8 H1.out)).trans H1.out
     have v0:=Qk _ _ 0 _ _ _ (aU (.cells #[.pointer q,b2,x0.kind,x0.n,x0.s,.slice z3 x0.names.length aI,.slice z4 x0.kids.length aJ] 124 (0,0)))
     have f0:=fA 0 (aU (.cells #[.pointer q,b2,x0.kind,x0.n,x0.s,.slice z3 x0.names.length aI,.slice z4 x0.kids.length aJ] 124 (0,0)))
     simp only [Qf,Qg] at v0
     have dC:=Qq aU
     clear aU
     go_upto_region 53 with fail
     generalize aD:World.alloc w7 _=w8
     have aN:Hid (Below Y Y w8):=Qq (by rw [← aD];exact aO.out.thn (Zg _ _))
     have bJ:Hid (w8.heap[w7.heap.size]?=some (.cells #[.pointer q,b2,x0.kind,x0.n,x0.s,.slice z3 x0.names.length aI,.slice z4 x0.kids.length aJ] 124 (0,0))):=Qq (by rw [← aD];exact Qw _ _)
     have cE:Hid (w8.heap[w.heap.size+1]?=some (.cells #[.pointer q] 122 (0,0))):=Qq (by rw [← aD];exact dC.out _)
     rw [aD] at v0 f0
     clear aD
     generalize aE:World.setCell w8 _ _=w9
     have cH:w9.heap[w.heap.size+1]?=some (.cells #[Qqc w7] 122 (0,0)):=by rw [← aE];exact Qi _ _ _ _ _ _ cE.out
     have aG:∀ b,b≠w.heap.size+1→w9.heap[b]?=w8.heap[b]?:=fun b hb=>by rw [← aE];exact Za hb
     have J:Below w w w9:=by rw [← aE];exact (aM.out.thn (G.out.thn aN.out)).setCell (by show w≤w.heap.size+1;omega) _
     have eE:w9.heap.size=w8.heap.size:=by rw [← aE];simp [World.setCell]
     clear aE v0 f0
     have dS:=aO.out.size
     have eD:w7.heap.size<w8.heap.size:=Z8 bJ.out
     have dB:Hid (w9.heap[w.heap.size+1+1]?=_):=Qq ((aG _ Qqj).trans (kB aN.out bI.out))
     have aW:=Qq J
     have hA:Ui (fun b=>S0 b∧b≠w+1+1∧b≠w+1) Y w9:=fun b hb dL=>(aG b hb.2.2).trans (aN.out.block b dL)
     have cJ:Xv (fun b=>S0 b∧b≠w+1+1∧b≠w+1+1) w9 (.pointer (some ⟨w7,0,none⟩)) ((b2,x0)::env):=.cons _ q b2 x0 z3 aI z4 aJ env ⟨cA.out _ Qqj,Qqj,Qqj⟩ ((aG _ Qqj).trans bJ.out) bT.out (Z9.move bW.out hA (fun b _ h=>⟨h.1,h.2.1,h.2.1⟩)) (HE.out.move (.of_below J) (fun b _ h=>⟨h.1,by have:=h.2;omega,by have:=h.2;omega⟩))
     have bF:=Qq (Kl w (w+1) 2 (fun b=>S0 b∧b≠w+1+1∧b≠w+1+1) S' kp kc [x,y,t] t (.pointer (some ⟨w7,0,none⟩)) ((b2,x0)::env) (r2 x0) w9
      (by rw [aR.out];exact (Qk _ _ 6 _ _ _ ((aG _ Qqj).trans (kB (G.out.thn aN.out) H0.out))).trans rfl) (by rw [aR.out];exact HK.out.below J) ((Qk _ _ 0 _ _ _ cH).trans rfl) (fun b hb=>⟨cA.out b Qqj,Qqj,Qqj⟩) (bX.out.below J) cJ rfl (HT.out x0))
     clear cH aG J hA cJ bW HE HK bJ cE
     rw [bZ.out] at bF
     clear bZ
     go_wp2_with fail
     cases R with
     | none=>
      refine (bF.out).mono ?_
      rintro e w8 ⟨rfl,bQ⟩
      exact ⟨rfl,rfl,aW.out.thn bQ⟩
     | some r=>
      refine (bF.out).mono ?_
      rintro e w4 ⟨cr,rfl,O,N⟩
      obtain ⟨q3,l3,q4,l4,D,_⟩:=Z9.cells O
      simp only [vcs] at D
      subst D
      have M:=kB N dB.out
      have bD:=Qq (aW.out.thn N)
      have bH:=Qq O
      have HR:=Qq M
      have fz:=fun j=>Qn _ _ j _ _ M
      obtain ⟨f0,f1,f2,f3,f4⟩:=Qzj fz
      have rr:=fun j=>Qk _ _ j _ _ _ M
      obtain ⟨r0,r1,r2,r3,r4⟩:=Qzj rr
      simp only [Qf,Qg,Qh] at r0 r1 r2 r3 r4
      clear fz rr O N M
      go_wp2_with fail
      show bodyPost _ _ _ _ _ (Qqm w4 (w+1+1) r q3 l3 q4 l4)
      refine Q7 (v:=.agg (Qqg r q3 l3 q4 l4)) (by simp [results,results91,go_sem,Zd HR.out]) rfl ⟨_,rfl,?_,Zc bD.out Qqj⟩
      exact Z9.move bH.out (fun b hb _=>Zf (by have:=hb.2.1;omega)) (fun _ _ h=>h.1)
    obtain rfl:none=R:=by
     rw [← A];split
     ·exfalso;apply hl;rename_i h9;rw [h9];rfl
     rfl
    have HM:=Qq X8
    have cY:=Qq Fu
    have dY:((u.kids.length:Int)==1)=false:=by rw [beq_eq_false_iff_ne];omega
    clear hs1 hs2 A hl
    go_wp2_with (first
     | (go_at_call 134;refine (cY.out _).mono ?_;rintro e w' ⟨rfl,rfl⟩)
     | (go_at_call 134;refine (HM.out _).mono ?_;rintro e w' ⟨rfl,rfl⟩)
     | (go_at_call 139;refine HI.out.mono ?_;rintro e w' ⟨rfl,rfl⟩))
    exact ⟨rfl,rfl,aP.out⟩
   rw [if_neg (fun e=>hs2 e.symm)] at A
   obtain rfl:none=R:=A
   rw [if_neg hs2] at HI
   have HM:=Qq Fu
   clear hs1 hs2 x4
   go_wp2_with (first
    | (go_at_call 134;refine (HM.out _).mono ?_;rintro e w' ⟨rfl,rfl⟩)
    | (go_at_call 139;refine HI.out.mono ?_;rintro e w' ⟨rfl,rfl⟩))
   exact ⟨rfl,rfl,aP.out⟩
  have aS:=Qq (fun cu W (hu:Z9 (fun b=>S0 b∧b≠w+1+1∧b≠w+1) W cu u)=>of_no 3 _ u cu W hu hk)
  obtain rfl:none=R:=by rw [← M];unfold N3;dsimp only;rw [if_neg hk]
  clear M hk
  go_wp2_with (first
   | (go_at_call 131;refine (aS.out _ _ HU.out).mono ?_;rintro e w5 ⟨rfl,hb⟩)
   | (go_at_call 132;refine (aA.out _ (Qz _ _)).mono ?_;rintro e w4 ⟨cu,rfl,hu,hb⟩;obtain ⟨a3,dD,a4,dE,D,_⟩:=Z9.cells hu;simp only [vcs] at D;subst D;have HU:=Qq hu;have Z:=Qq ((Qz T T).thn hb);clear hu hb;clear aA))
  exact ⟨rfl,rfl,aM.out.thn (Z.out.thn hb)⟩
end Go.Proofs.YtdpibdpbgokmoaaGreatDoor
