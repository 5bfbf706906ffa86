import Derived.Test.YtdpibdpbgokmoaaGreatDoorA25
set_option maxRecDepth 100000
set_option maxHeartbeats 400000000
namespace Go.Proofs.YtdpibdpbgokmoaaGreatDoor
open Go.RowKit Go.Shelf Go.Lib Tryz
theorem O3 {T:Type} {p:T->Bool} {xs:List T} {k:Nat} {x:T} (hx:xs[k]?=some x) (hp:p x=true) (hne:∀ (j:Nat) (y:T),j<k->xs[j]?=some y->p y=false):atP p xs=some x:=by
 have h:=Jk hx hp hne
 rcases Vt p xs with ⟨A,_⟩ | ⟨i,y,A,h2,h3⟩
 ·rw [h] at A;omega
 rw [h] at A
 have:k=i:=Ia
 subst this
 rw [hx] at h2;cases h2;exact h3
theorem Mj {T:Type} {p:T->Bool} {xs:List T} (hne:∀ (j:Nat) (y:T),xs[j]?=some y->p y=false):atP p xs=none:=by
 have h:=U9 hne
 rcases Vt p xs with ⟨_,h2⟩ | ⟨i,y,h1,_,_⟩
 ·exact h2
 rw [h] at h1;omega
theorem Cg {s:Sc} {l:List Rel} {tn:Bs} {key:List Val} (h:Yw s.tables tn=none\/key.length=0):Jx s l tn key=none:=by
 unfold Jx
 rcases h with h | h
 ·rw [h]
 split
 ·rw [if_pos h]
 rfl
theorem Qjc {s:Sc} {l:List Rel} {tn:Bs} {key:List Val} {T:Tbl} (h:Yw s.tables tn=some T) (hk:0<key.length):Jx s l tn key=atP (lkP T.key key) (Yg l tn):=by
 unfold Jx
 rw [h]
 rcases Fc l tn with ⟨G,D⟩ | ⟨i,r,G,D,h3⟩
 ·have:atP (λr=>decide (r.table=tn)) l=none:=by
   rcases Vt (λr:Rel=>decide (r.table=tn)) l with ⟨_,A⟩ | ⟨i,y,A,_,_⟩
   ·exact A
   rw [D] at A;omega
  rw [this]
  unfold Yg;rw [G];rfl
 have:atP (λr=>decide (r.table=tn)) l=some r:=by
  rcases Vt (λr:Rel=>decide (r.table=tn)) l with ⟨A,_⟩ | ⟨j,y,A,h5,h6⟩
  ·rw [D] at A;omega
  rw [D] at A
  have:i=j:=Ia
  subst this
  rw [h3] at h5;cases h5;exact h6
 rw [this]
 simp only
 rw [if_neg Ia]
 unfold Yg;rw [G];simp [h3]
def RLookIs (S:Nat->Prop) (w:World) (o:Option Val) (e:Ending) (w':World):Prop:=
 ∃ cs',e=.returned (.tuple #[.agg cs'.toArray,.bool o.isSome])/\Z9 S w' cs' (o.getD Val.zero)/\Below w w w'
theorem Ru (S0 S1 S2:Nat->Prop) (s:Sc) (cs:List Value) (lv:Value) (l:List Rel) (tn:Bs) (kv:Value) (key:List Val) (w:World) (hs:Ve S0 w cs s) (hl0:Sl Yk S1 w lv l) (hkv0:Sl Zc S2 w kv key) (hkl:∀ t ∈ s.tables,t.key.length<=1000):
  Calls prog 44 #[cs,lv,sv tn,kv] w (RLookIs S1 w (Jx s l tn key)):=by
 have hl:=hl0.up
 have HT:=Qq (λW (hb:Below w w W)=>Hp S0 s cs tn W (hs.below hb))
 have bE:=Qq (λW (hb:Below w w W)=>N9 _ lv l tn W (hl.below hb))
 have bP:=Qq hkv0
 obtain ⟨uv,tv,rfl,hu,ht⟩:=hs
 obtain ⟨up,uc,rfl,_⟩:=hu.len
 obtain ⟨tp,tc,rfl,_⟩:=ht.len
 obtain ⟨kp,kc,rfl,cI⟩:=hkv0.len
 obtain ⟨rows,M⟩:=eX (Yg l tn)
 rw [M] at bE
 have bF:=Qq M
 obtain ⟨res,Z⟩:=eX (Jx s l tn key)
 rw [Z]
 have aY:=Qq Z
 have cC:((Yw s.tables tn).getD Tbl.zero).key.length<=1000:=by
  cases h:Yw s.tables tn with
  | none=>exact Q8 _
  | some t=>exact hkl t (List.mem_of_find?_eq_some h)
 obtain ⟨T,hT⟩:=eX ((Yw s.tables tn).getD Tbl.zero)
 obtain ⟨b,hb⟩:=eX ((Yw s.tables tn).isSome)
 have cY:=Qq hT;have bN:=Qq hb
 rw [hT] at cC
 obtain ⟨kn,bJ⟩:=eX (key.length)
 rw [bJ] at bP cI |-
 have bQ:=Qq bJ
 unfold TabIs at HT
 rw [hT,hb] at HT
 clear hu ht hl0 hl hkv0 M Z hT hb hkl bJ
 unfold sv at HT bE |-
 go_enter func44,ntmps44
 go_wp2_with fail
 refine (HT.o _ (Zs _ _ _)).mono ?_
 rintro e w1 ⟨ct,rfl,bK,bI⟩
 obtain ⟨aJ,aI,aN,aM,aV,aU,k9,aW,n9,aX,aR,aO,aF,aS,aP,aG,aT,aQ,aH,a9,z9,cH,_⟩:=Yq bK
 have bU:=Qq bK
 simp only [AL] at cH
 subst cH
 have bH:=(bI.block (w+1) Ib).trans (Q6 w _ _)
 have cW:=Qq ((Zs w _ _).n bI);have bY:=Qq bH
 have bB:=Z8 bH
 clear bK bI bH HT
 go_upto_region 2 with fail
 obtain ⟨X,hX⟩:=eX (w1.heap.size)
 generalize bG:w1.alloc (.cells (AR T aJ aI aN aM aV aU k9 aW n9 aX aR aO aF aS aP aG aT aQ aH a9 z9) 48)=w2
 have aL:=Iq bG (Zg _ _)
 have cD:w2.heap[X]?=some (.cells (AR T aJ aI aN aM aV aU k9 aW n9 aX aR aO aF aS aP aG aT aQ aH a9 z9) 48 (0,0)):=by rw [<- bG,<- hX];exact Qw _ _
 have cE:=kE aL bB bY.o
 obtain ⟨bC,bX,aE⟩:=Im (cW.o.n aL) cD cE
 have bV:=Qq (Zn.frame bU.o (.f aL))
 rw [hX] at bB |-
 clear bG aL cD cE hX bY bU
 have dK:=Z8 bX.o
 go_wp2_with (go_at_call 67;refine (bE.o _ bC.o).mono ?_;rintro e w' ⟨rp,rc,rfl,cL,rfl⟩;have aD:=Qq cL;clear cL)
 obtain ⟨n,hn⟩:=eX (rows.length)
 obtain ⟨_,_,_,dN⟩:=aD.o.len
 rw [hn] at aD dN |-
 have HN:=Qq hn
 clear hn
 by_cases hrun:b=true/\0<kn
 ·obtain ⟨rfl,bA⟩:=hrun
  have aA:Yw s.tables tn=some T:=by
   have O:=bN.o;have h2:=cY.o
   cases hq:Yw s.tables tn with
   | none=>rw [hq] at O;cases O
   | some v=>rw [hq] at h2;rw [<- h2];rfl
  have cK:res=atP (lkP T.key key) rows:=by rw [<- aY.o,Qjc aA (by rw [bQ.o];exact bA),bF.o]
  have bR:=Qq cK
  have dT:(0:Int)<(kn:Int):=Ia
  have dU:decide (0<kn)=true:=by simpa using bA
  clear aA cK
  go_loopw [13,14] (λi _ wr=>∃ k:Nat,k<=n/\i=.int .i64 k/\Aside (∀ (j:Nat) (y:Val),j<k->rows[j]?=some y->lkP T.key key y=false)/\Aside (Below w2 w2 wr)) (λi _ _=>n - (intOf i).toNat)
  case atStart=>exact ⟨0,Q8 _,rfl,λj _ hj=>absurd hj (Z6 _),Qz _ _⟩
  obtain ⟨k,hk,rfl,A,cA⟩:=hrel
  have I:=Qq (show Below w2 w2 wr from cA)
  have bD:=Qq (bC.o.n I.o)
  clear cA
  have dA:=Qq (kE I.o dK bX.o);have N:=Qq (kB I.o aE.o)
  have dY:=I.o.size
  by_cases U:k<n
  ·have dW:(0:Int)<=(k:Int):=Ia
   have dX:(k:Int)<(n:Int):=Ia
   have dL:decide (k<n)=true:=by simpa using U
   obtain ⟨y,hy⟩:∃ y,rows[k]?=some y:=⟨_,Qx (by rw [HN.o];exact U)⟩
   obtain ⟨rb,cM,q3,l3,q4,l4,rfl,Y,aB,e0,e1,e2,e3,e4⟩:=(aD.o.below I.o).val hy
   have cZ:=Qq aB;have HY:=Qq hy
   obtain ⟨x0,x1,x2,x3,x4,x5,x6,x7,x8,x9,cN,cO,cP⟩:=AP dA.o
   go_upto_region 6 with fail
   refine let_mvar% ?Lq1:=λw':World=>(BT w' X T.name (.slice aJ T.columns.length aI) (.slice aN T.key.length aM) (.slice aV T.refs.length aU) k9 (.string aW) n9 (.string aX) (.slice aR aO aF) (.slice aS aP aG) (.slice aT aQ aH) a9 z9 ((BF w' rb (cM+k*5) y.kind y.n y.s (.slice q3 y.names.length l3) (.slice q4 y.kids.length l4) (Below wr wr w'):Prop)):Prop);?_
   have HS:∀ w',Below wr wr w'->?Lq1 w':=by
    intro w' h
    have G:∀ {b j:Nat} {u:Value},b<wr->wr.cell? ⟨b,j,none⟩=some u->w'.cell? ⟨b,j,none⟩=some u:=λU hc=>kD h U hc
    have D:X<wr.heap.size:=Ia
    exact ⟨G D x0,G D x1,G D x2,G D x3,G D x4,G D x5,G D x6,G D x7,G D x8,G D x9,G D cN,G D cO,G D cP,G Y e0,G Y e1,G Y e2,G Y e3,G Y e4,h⟩
   have J:∀ w',?Lq1 w'->Below wr wr w':=λw' h=>h.2.2.2.2.2.2.2.2.2.2.2.2.2.2.2.2.2.2
   have HC:=Qq (λW' (h':?Lq1 W')=>(B6 S0 (λb=>S1 b/\b<w) T y (AR T aJ aI aN aM aV aU k9 aW n9 aX aR aO aF aS aP aG aT aQ aH a9 z9) (Is y q3 l3 q4 l4) W' (Zn.frame bV.o (.f (I.o.n (J _ h')))) (cZ.o.move (.f (J _ h')) Ij) cC).mono (R':=λe w2=>∃ p n cap,e=.returned (.slice p n cap)/\Sl Zc (λ_=>True) w2 (.slice p n cap) ((keyOf T.key y).getD [])/\?Lq1 w2) (by
    rintro e w2 ⟨p,cap,rfl,h3,h4⟩
    exact ⟨p,_,cap,rfl,h3.mono (λ_ _ _=>trivial),HS _ ((J _ h').n h4)⟩))
   have HE:=Qq (λW' p n cap (h':?Lq1 W') (h2:Sl Zc (λ_=>True) W' (.slice p n cap) ((keyOf T.key y).getD []))=>(N8 (λ_=>True) S2 (.slice p n cap) (.slice kp kn kc) ((keyOf T.key y).getD []) key W' h2 (bP.o.below (bD.o.n (J _ h')))).mono (R':=λe w2=>e=.returned (.bool (lkP T.key key y))/\?Lq1 w2) (by
    rintro e w2 ⟨rfl,h4⟩
    exact ⟨rfl,HS _ ((J _ h').n h4.bl)⟩))
   have bS:=Qq (HS wr.drew (Qz _ _).drew);have aZ:=Qq J
   obtain ⟨c,hc⟩:=eX (lkP T.key key y)
   rw [hc] at HE
   have bO:=Qq hc
   clear HS J aB hy hc x0 x1 x2 x3 x4 x5 x6 x7 x8 x9 cN cO cP e0 e1 e2 e3 e4
   go_cut [14] from 24 to 50 (λdS wx=>dS=.bool c/\Aside (Below wr wr wx))
   case first=>
    go_region_held3 ?Lq1 (first | with_reducible exact bS.o | with_reducible exact dI | with_reducible exact cB)
     (first
      | (go_at_call 42;refine (HC.o _ AN).mono ?_;rintro e w5 ⟨eB,eA,dZ,rfl,dM,dI⟩)
      | (go_at_call 41;refine (HE.o _ _ _ _ AN dM).mono ?_;rintro e w6 ⟨rfl,cB⟩))
    all_goals
     go_wp2_with fail
     go_meet
     exact ⟨rfl,aZ.o _ cB⟩
   obtain ⟨rfl,cF⟩:=hcut
   have aC:=Qq (show Below wr wr wc from cF)
   clear cF HC HE bS aZ
   cases c with
   | false=>
    go_wp2_with fail
    go_roundw
    case measure=>simp [intOf];omega
    case rel=>
     refine ⟨k+1,Ia,by go_num,(show Aside _ from λj z hj hz=>?_),I.o.n aC.o⟩
     by_cases e:j=k
     ·subst e
      have:=HY.o
      rw [this] at hz
      cases hz
      exact bO.o
     exact A.o j z Ia hz
   | true=>
    have V:res=some y:=by rw [bR.o];exact O3 HY.o bO.o A.o
    subst V
    obtain ⟨eC,dR,u3,m3,u4,m4,he,dV,aB,e0,e1,e2,e3,e4⟩:=(aD.o.below (I.o.n aC.o)).val HY.o
    simp only [Zv,Addr.mk.injEq,and_true] at he
    obtain ⟨rfl,rfl⟩:=he
    have aK:=kB aC.o N.o
    have bZ:=Qq aK;have bW:=Qq aB
    obtain ⟨z0,z1,z2,z3,z4⟩:=If aK
    obtain ⟨f0,f1,f2,f3,f4⟩:=Ip aK
    clear aK aB A
    go_wp2_with fail
    show bodyPost _ _ _ _ _ (AI wc (w+1) y u3 m3 u4 m4)
    refine Q7 (v:=.tuple #[.agg (Is y u3 m3 u4 m4),.bool true]) (by simp [results,results44,go_sem,Ze bZ.o]) rfl ⟨_,rfl,?_,Zd (bD.o.n aC.o) Ia⟩
    exact Z9.move bW.o (λb hb _=>Zf (by have:=hb.2;omega)) (λb _ hb=>hb.1)
  have cJ:k=n:=Ia
  subst cJ
  have dL:decide (k<k)=false:=Ib
  have V:res=none:=by rw [bR.o];exact Mj (λj y hy=>A.o j y (by have:=(Qj hy).1;have:=HN.o;omega) hy)
  subst V
  have bZ:=N
  obtain ⟨z0,z1,z2,z3,z4⟩:=If N.o
  obtain ⟨f0,f1,f2,f3,f4⟩:=Ip N.o
  clear A U
  go_wp2_with fail
  show bodyPost _ _ _ _ _ (Zl wr (w+1) Ic Ic Ig Ie Ie)
  refine Q7 (v:=.tuple #[.agg zV,.bool false]) (by simp [results,results44,go_sem,Ze N.o]) rfl ⟨_,rfl,Y2 _ _,Zd bD.o Ia⟩
 have V:res=none:=by
  rw [<- aY.o]
  refine Cg ?_
  rw [bQ.o]
  cases hq:Yw s.tables tn with
  | none=>exact .inl rfl
  | some v=>
   have O:=bN.o
   rw [hq] at O
   exact .inr (by have:b=true:=O.symm;by_cases h0:0<kn;exact absurd ⟨this,h0⟩ hrun;omega)
 subst V
 go_loopw [13,14] (λi _ wr=>i=.int .i64 0/\w2=wr) (λ_ _ _=>0)
 case atStart=>exact ⟨rfl,rfl⟩
 obtain ⟨rfl,rfl⟩:=hrel
 obtain ⟨z0,z1,z2,z3,z4⟩:=If aE.o
 obtain ⟨f0,f1,f2,f3,f4⟩:=Ip aE.o
 have dP:(0<n/\b=true/\kn=0)\/(0<n/\b=false)\/n=0:=by
  by_cases O:n=0
  ·exact .inr (.inr O)
  cases hbq:b with
  | false=>exact .inr (.inl ⟨Ia,rfl⟩)
  | true=>exact .inl ⟨Ia,rfl,by by_cases h0:0<kn;exact absurd ⟨hbq,h0⟩ hrun;omega⟩
 clear hrun
 rcases dP with ⟨O,rfl,rfl⟩ | ⟨O,rfl⟩ | rfl
 focus
  have g1:(0:Int)<(n:Int):=Ia
  have g2:decide (0<n)=true:=by simpa using O
  go_wp2_with fail
 rotate_left
 focus
  have g1:(0:Int)<(n:Int):=Ia
  have g2:decide (0<n)=true:=by simpa using O
  go_wp2_with fail
 rotate_left
 focus
  go_wp2_with fail
 all_goals
  show bodyPost _ _ _ _ _ (Zl w2 (w+1) Ic Ic Ig Ie Ie)
  refine Q7 (v:=.tuple #[.agg zV,.bool false]) (by simp [results,results44,go_sem,Ze aE.o]) rfl ⟨_,rfl,Y2 _ _,Zd bC.o Ia⟩
theorem En (p:Addr) (b:Bool) (older:List PanicEntry) (w:World) (hc:w.cell? p=some (.bool b)) (hz:w.frozen? p=false):
  CallsD prog 89 #[.pointer (some p)] (.panicking ({ v:=.iface 121 (.agg #[]),recovered:=false }::older)) w λe u' w'=>
   e=.returned (.tuple #[])/\u'=.panicking ({ v:=.iface 121 (.agg #[]),recovered:=true }::older)/\∃ o,w'=(w.alloc o).setCell p (.bool false):=by
 refine callsD_of_wpS func89 rfl λc₀ cs hu=>?_
 apply wpS_seq
 apply wpS_region
 simp [wpOpsS,go_sem,recoverD,hu,ntmps89,Exit.thenS]
 have D:∀ w,(Instr.typeAssert (.iface 121 (.agg #[])) 20 121 true).run prog w=.ok (.tuple #[.agg #[],.bool true]) w:=by
  intro w
  simp [Instr.typeAssert,go_sem]
 refine wpS_of_wp ?_
 rw [show (#[Value.pointer (some p)]++(Array.replicate 9 undef).setIfInBounds 3 (.iface 121 (.agg #[])))=#[.pointer (some p),undef,undef,undef,.iface 121 (.agg #[]),undef,undef,undef,undef,undef] from rfl]
 have hl:=Qv _ _ hc
 have A:(w.alloc (.cells #[] 121)).cell? p=some (.bool b):=((Zg w _).cell hl).trans hc
 have G:(w.alloc (.cells #[] 121)).frozen? p=false:=((Zg w _).frozen hl).trans hz
 go_wp2_with fail
 cases c₀
 simp_all [bodyPostS,results,results89]
 exact ⟨_,rfl⟩
def Ma (r:Option Val):Bool:=match r with
 | some u=>decide (u.kind=2)&&(u.n==1)
 | none=>false
theorem Aj (S0 S1:Nat->Prop) (t:Tbl) (v:Val) (ct cr:List Value) (r:Option Val) (w:World) (ht0:Zn.R S0 w ct t) (hr0:Z9 S1 w cr v) (hsi:Vw t.check=true) (hev:EvO t.check (Fg v) r) (hln:v.names.length<=v.kids.length) (hkw:Xs w):
  Calls prog 37 #[ct,cr] w λe w'=>e=.returned (.bool (Ma r))/\Below w w w':=by
 obtain ⟨b,aG⟩:=eX (Ma r)
 rw [aG]
 have bY:∀ (fn:Fn) (first cap:Array Value) (w:World),(Instr.makeFunc fn first cap).run prog w=.ok (.func fn first cap) w:=λ_ _ _ _=>rfl
 have ht:Zn.R (λb=>b<w) w ct t:=Zn.mono ht0 (λb hb _=>hb)
 have hr:Z9 (λb=>b<w) w cr v:=hr0.move (.refl _ _) (λb hb _=>hb)
 obtain ⟨bS,bR,cC,cB,cK,cJ,k9,cL,n9,cM,cG,cD,bO,cH,cE,bP,cI,cF,bQ,a9,z9,G,_,_,_,_,aH⟩:=Yq ht
 simp only [AL] at G
 subst G
 obtain ⟨p3,k3,p4,k4,G,aI,aR,_⟩:=Z9.cells hr
 simp only [Il] at G
 subst G
 have aN:=Qq (λW (hb:Below w w W)=>hsi ▸ Ot t.check _ _ W (Yx.move aH (.f hb) Ij))
 have aL:=Qq (λp W (hb:Below w w W) (he:Xy (λ_=>True) W p (Fg v))=>hev (λ_=>True) _ _ p W (λ_ _=>trivial) (hkw.below hb) (Yx.move aH (.f hb) Ij) he)
 have aM:=Qq aI;have bB:=Qq aR
 obtain ⟨n,hn⟩:=eX (v.names.length)
 have cA:n<=1000000:=by rw [<- hn];obtain ⟨_,_,_,h⟩:=aI.len;exact h
 rw [hn] at aM hln |-
 have HN:=Qq hn;have bC:=Qq hln
 clear ht ht0 hr hr0 aH aI aR hsi hev hn hln hkw
 go_enter_defers func37,ntmps37
 go_wp2_with fail
 refine (aN.o _ (Xt _ _ _ _)).mono ?_
 rintro e w1 ⟨rfl,Y⟩
 have h0:=(Y.block w (by simp;omega)).trans (Zp w _ _ _)
 have h1:=(Y.block (w+1) Ib).trans (Zo w _ _ _)
 have h2:=(Y.block (w+1+1) Ib).trans (Zi w _ _ _)
 have bA:=Qq ((Xt w _ _ _).n Y)
 obtain ⟨H0,H1,H2⟩:=Im h0 h1 h2
 have x3:=AH h1;have x4:=Iz h1
 clear Y h0 h1 h2 aN
 go_wp2_with fail
 go_loopw [5,16] (λp i wr=>∃ k:Nat,k<=n/\i=.int .i64 k/\Xy (λ_=>True) wr p ((v.names.take k).zip (v.kids.take k)).reverse/\Below w1 w1 wr) (λ_ i _=>n - (intOf i).toNat)
 case atStart=>exact ⟨0,Q8 _,rfl,by simp only [List.take_zero,List.zip_nil_left,List.reverse_nil];exact .nil,Qz _ _⟩
 obtain ⟨k,bX,rfl,hE,M⟩:=hrel
 have aJ:=Qq M
 have J:=Qq (bA.o.n M)
 have I:=Qq (kB M H0.o)
 have aB:=Qq (kB M H2.o)
 have y4:=Iz ((kB M H1.o))
 obtain ⟨q,rfl⟩:=hE.ptr
 have HE:=Qq hE
 clear M hE
 by_cases O:k<n
 ·have bT:(0:Int)<=(k:Int):=Ia
  have bU:(k:Int)<(n:Int):=Ia
  have aT:k<v.kids.length:=Ix bC.o
  have bV:(k:Int)<(v.kids.length:Int):=Ia
  obtain ⟨x,hx⟩:∃ x,v.names[k]?=some x:=⟨_,Qx (by rw [HN.o];exact O)⟩
  obtain ⟨u,hu⟩:∃ u,v.kids[k]?=some u:=⟨_,Qx aT⟩
  obtain ⟨nb,bN,rfl,bZ,aV⟩:=(aM.o.below J.o).str hx
  obtain ⟨kb,bM,q3,l3,q4,l4,rfl,bW,aU,d0,d1,d2,d3,d4⟩:=(bB.o.below J.o).val hu
  have HZ:=Qq (Pk v.names v.kids k x u hx hu)
  have bE:=Qq aV;have bD:=Qq aU
  clear hx hu aU aV aT
  go_wp2_with fail
  go_roundw
  case measure=>simp [intOf];omega
  case rel=>
   refine ⟨k+1,Ia,by go_num,?_,aJ.o.alloc (Ix aJ.o.size) _⟩
   rw [HZ.o]
   exact .cons _ q x u q3 l3 q4 l4 _ trivial (Qw _ _) bE.o (Z9.move bD.o (.f (Zg _ _)) (λ_ _ _=>trivial)) (HE.o.move (.f (Zg _ _)) Ij)
 have aS:k=n:=Ia
 have hd:decide ((k:Int)<(n:Int))=false:=by simpa using O
 have hz:((v.names.take k).zip (v.kids.take k)).reverse=Fg v:=by
  unfold Fg
  rw [aS,<- HN.o,List.take_length,Gi]
 rw [hz] at HE
 have aK:=Qq (aL.o (.pointer q) wr J.o HE.o)
 have z4:=Iz I.o;have z5:=AY I.o;have z6:=AK I.o;have z7:=rA7 I.o;have z8:=rA8 I.o;have cQ:=rA9 I.o;have cN:=BQ I.o;have cO:=BR I.o;have cP:=BS I.o
 clear hz aS HE aL
 have aD:=Qq aG
 clear aG
 cases r with
 | none=>
  obtain rfl:false=b:=aD.o
  go_wp2_with fail
  refine aK.o.mono ?_
  rintro e U ⟨rfl,D⟩
  have A:=Qq (kB D aB.o)
  have V:=Qq (J.o.n D)
  clear D
  dsimp only
  refine leaves_cons (f:=89) (args:=#[.pointer (some ⟨w+1+1,0,none⟩)]) Ib (by simp [go_sem]) ?_
  refine (En ⟨w+1+1,0,none⟩ false [] _ (by rw [Qk _ _ 0 _ _ _ A.o];rfl) (fA 0 A.o)).mono ?_
  rintro e u' aW ⟨rfl,rfl,o,rfl⟩
  have O:=Z8 A.o
  have aF:=kE (Zg U o) O A.o
  have hc:((U.alloc o).setCell ⟨w+1+1,0,none⟩ (.bool false)).cell? ⟨w+1+1,0,none⟩=some (.bool false):=by
   rw [Qk _ _ 0 _ _ _ (Qi _ _ _ _ _ _ aF)]
   rfl
  have hb:Below w w ((U.alloc o).setCell ⟨w+1+1,0,none⟩ (.bool false)):=(V.o.n (Zg U o)).setCell (by show w<=w.heap.size+1+1;omega) _
  simp [Leaves,settle,results,results37,go_sem,hc,hb]
 | some u=>
  go_wp2_with fail
  refine aK.o.mono ?_
  rintro e w5 ⟨aO,rfl,T,N⟩
  by_cases hk:u.kind=2
  ·have aP:(u.n==1)=b:=by rw [<- aD.o];show _=(decide (u.kind=2)&&(u.n==1));rw [decide_eq_true hk,Bool.true_and]
   have Z:=Qq (Uo _ u aO w5 T hk)
   rw [aP] at Z
   obtain ⟨q3,l3,q4,l4,G,_⟩:=Z9.cells T
   simp only [Il] at G
   subst G
   have aC:=Qq (kB N aB.o)
   have aE:=Qq (J.o.n N)
   clear T N hk aP
   go_wp2_with fail
   refine Z.o.mono ?_
   rintro e U ⟨rfl,D⟩
   have aA:=kB D aC.o
   have V:=Qq (aE.o.n D)
   have f0:=fA 0 aA;have r0:=AB aA
   have A:=Qq aA
   clear D aA
   go_wp2_with fail
   refine leaves_cons (f:=89) (args:=#[.pointer (some ⟨w+1+1,0,none⟩)]) Ib (by simp [go_sem]) ?_
   refine (N1 ⟨w+1+1,0,none⟩ _).mono ?_
   rintro e u' aW ⟨rfl,rfl,rfl⟩
   have hc:(U.setCell ⟨w+1+1,0,none⟩ (.bool b)).cell? ⟨w+1+1,0,none⟩=some (.bool b):=by
    rw [Qk _ _ 0 _ _ _ (Qi _ _ _ _ _ _ A.o)]
    rfl
   have hb:Below w w (U.setCell ⟨w+1+1,0,none⟩ (.bool b)):=V.o.setCell (by show w<=w.heap.size+1+1;omega) _
   refine ⟨.bool b,by simp [results,results37,go_sem,hc],rfl,hb⟩
  obtain rfl:false=b:=by rw [<- aD.o];show _=(decide (u.kind=2)&&(u.n==1));rw [decide_eq_false hk];rfl
  have Z:=Qq (Pu _ u aO w5 T hk)
  obtain ⟨q3,l3,q4,l4,G,_⟩:=Z9.cells T
  simp only [Il] at G
  subst G
  have aC:=Qq (kB N aB.o)
  have aE:=Qq (J.o.n N)
  clear T N hk
  go_wp2_with fail
  refine Z.o.mono ?_
  rintro e U ⟨rfl,D⟩
  have A:=Qq (kB D aC.o)
  have V:=Qq (aE.o.n D)
  clear D
  dsimp only
  refine leaves_cons (f:=89) (args:=#[.pointer (some ⟨w+1+1,0,none⟩)]) Ib (by simp [go_sem]) ?_
  refine (En ⟨w+1+1,0,none⟩ false [] _ (by rw [Qk _ _ 0 _ _ _ A.o];rfl) (fA 0 A.o)).mono ?_
  rintro e u' aW ⟨rfl,rfl,o,rfl⟩
  have O:=Z8 A.o
  have aF:=kE (Zg U o) O A.o
  have hc:((U.alloc o).setCell ⟨w+1+1,0,none⟩ (.bool false)).cell? ⟨w+1+1,0,none⟩=some (.bool false):=by
   rw [Qk _ _ 0 _ _ _ (Qi _ _ _ _ _ _ aF)]
   rfl
  have hb:Below w w ((U.alloc o).setCell ⟨w+1+1,0,none⟩ (.bool false)):=(V.o.n (Zg U o)).setCell (by show w<=w.heap.size+1+1;omega) _
  simp [Leaves,settle,results,results37,go_sem,hc,hb]
theorem P0 (S:Nat->Prop) (v:Value) (l:List Int) (k:Nat) (two ref third:Bool) (w:World) (hs:V5 S w v l) (hi:Kz l)
  (hC:∀ W,Below w w W->Calls prog 17 #[v,Ic] W (J7 W (Gen.check k)))
  (h1:two=(Xk l 1 3==0)) (h2:ref=decide (0<Xk l 2 3)) (h3:third=(Xk l 3 2==0)):
  Calls prog 5 #[v] w (NewSc w (Gen.schema k two ref third)):=by
 have HP:=Qq (λ(i:Nat) (m:Int) (hm:1<=m) (hm2:m<=1000000000) W (hb:Below w w W)=>Ys S v l i m W (hs.below hb) hi hm hm2)
 have HC:=Qq hC
 obtain ⟨z1,cY⟩:=eX (Xk l 1 3)
 obtain ⟨z2,cZ⟩:=eX (Xk l 2 3)
 obtain ⟨z3,dA⟩:=eX (Xk l 3 2)
 have fW:Hid (∀ W,Below w w W->Calls prog 18 #[v,.int .i64 1,.int .i64 3] W λe w'=>e=.returned (.int .i64 z1)/\W=w'):=Qq (λW hb=>by have:=HP.o 1 3 Ia Ia W hb;rw [cY] at this;exact this)
 have fX:Hid (∀ W,Below w w W->Calls prog 18 #[v,.int .i64 2,.int .i64 3] W λe w'=>e=.returned (.int .i64 z2)/\W=w'):=Qq (λW hb=>by have:=HP.o 2 3 Ia Ia W hb;rw [cZ] at this;exact this)
 have fY:Hid (∀ W,Below w w W->Calls prog 18 #[v,.int .i64 3,.int .i64 2] W λe w'=>e=.returned (.int .i64 z3)/\W=w'):=Qq (λW hb=>by have:=HP.o 3 2 Ia Ia W hb;rw [dA] at this;exact this)
 rw [cY] at h1;rw [cZ] at h2;rw [dA] at h3
 obtain ⟨H1,H2,H3⟩:=Im h1 h2 h3
 obtain ⟨p,cap,rfl,_⟩:=hs.len
 clear hs hi hC h1 h2 h3 HP cY cZ dA
 obtain ⟨i0,j1,j2,j3,j4⟩:=Y8 (P:=prog) (t:=48) (z:=.agg zT) (n:=13) (b:=224) Ir
 obtain ⟨HJ,fL,fM,fN⟩:=It j1 j2 j3 j4
 clear j1 j2 j3 j4
 go_enter func5,ntmps5
 go_upto_region 4 with fail
 generalize D:World.alloc (World.alloc (World.alloc (World.alloc (World.alloc w _) _) _) _) _=W3
 have bK:=Iq D (Yj (Yj (Yj (Yj (Zg w _) _) _) _) _)
 have cH:W3=w.heap.size+5:=by rw [<- D];simp
 have g0:=Ik (b:=w.heap.size) D (Zb (Zb (Zb (Zb (Y6 rfl _) _) _) _) _)
 have g1:=Ik (b:=w.heap.size+1) D (Zb (Zb (Zb (Y6 Ib _) _) _) _)
 have g2:=Ik (b:=w.heap.size+1+1) D (Zb (Zb (Y6 Ib _) _) _)
 have g3:=Ik (b:=w.heap.size+1+1+1) D (Zb (Y6 Ib _) _)
 have g4:=Ik (b:=w.heap.size+1+1+1+1) D (Y6 Ib _)
 clear D
 have fI:=Qq (HC.o (W3.alloc (.cells #[.string ⟨#[97]⟩] 9)) (Yj bK _))
 have hk:=Y6 rfl (W:=W3) (.cells #[.string ⟨#[97]⟩] 9)
 have aC:=Qq cH
 obtain ⟨G0,G1,G2,G3,G4,GK,fG⟩:=BN g0 g1 g2 g3 g4 hk bK
 clear g0 g1 g2 g3 g4 hk bK cH
 go_upto_region 5 with (go_at_call 17;refine fI.o.mono ?_;rintro e I ⟨hO,rfl,bM,eI⟩;obtain ⟨aJ,aL,aK,aM,aF,aO,aR,aG,aP,aS,aH,aQ,aT,aI,aN,eJ⟩:=Yx.cells bM;subst eJ;have fK:=Qq bM;have V:=Qq eI;clear bM eI)
 have hH:w.heap.size+6<=I.heap.size:=by have:=V.o.size;have:=aC.o;simp at *;omega
 have cW:W3.heap.size<I.heap.size:=by have:=V.o.size;simp at this;omega
 have q0:=Kc V.o (by simp;have:=aC.o;omega) (Zb G0.o _);have q1:=Kc V.o (by simp;have:=aC.o;omega) (Zb G1.o _);have q2:=Kc V.o (by simp;have:=aC.o;omega) (Zb G2.o _);have q3:=Kc V.o (by simp;have:=aC.o;omega) (Zb G3.o _);have q4:=Kc V.o (by simp;have:=aC.o;omega) (Zb G4.o _);have qk:=Kc V.o Ib GK.o
 have u0:=Z8 q0;have u1:=Z8 q1;have u2:=Z8 q2;have u4:=Z8 q4
 have bG:=Qq ((Yj fG.o _).n V.o)
 obtain ⟨Q0,Q1,Q2,Q3,Q4,QK⟩:=BE q0 q1 q2 q3 q4 qk
 obtain ⟨a0,a1,a2,a3,a4⟩:=If q1
 obtain ⟨c0,c1,c2,c3,c4⟩:=If q2
 clear q0 q1 q2 q3 q4 qk
 go_upto_if 35 with (go_at_call 18;refine (fW.o _ (Yj (Yj bG.o _) _)).mono ?_;rintro e w' ⟨rfl,rfl⟩)
 generalize D:World.alloc (World.alloc I _) _=W6
 have cG:=Iq D (Yj (Zg I _) _)
 have cI:W6=I.heap.size+2:=by rw [<- D];simp
 have k0:=Ik (b:=I.heap.size) D (Zb (Y6 rfl _) _)
 have k1:=Ik (b:=I.heap.size+1) D (Y6 Ib _)
 clear D
 obtain ⟨cO,dL,cM,hK⟩:=It k0 k1 cG cI
 have hF:I.heap.size+1<W6.heap.size:=Ia
 clear k0 k1 cG cI
 go_cut [] from 34 (λwx=>∃ kp kn kc,wx.heap[I.heap.size]?=some (.cells #[.string ⟨#[116]⟩,Io (I+1) 0 5 5,.slice kp kn kc,Ie,aJ,.string aL,aK,.string aM,.slice aF aO aR,.slice aG aP aS,.slice aH aQ aT,aI,aN] 48 (0,0))/\wx.heap[I.heap.size+1]?=some (.cells #[.string ⟨#[97]⟩,Ic,Ig,Ic,Ie,Ie,.string ⟨#[98]⟩,Ic,Ig,Ic,Ie,Ie,.string ⟨#[99]⟩,.int .i64 1,Ig,Ic,Ie,Ie,.string ⟨#[100]⟩,.int .i64 2,Ig,Ic,Ie,Ie,.string ⟨#[101]⟩,.int .i64 3,.string ⟨#[72,117,101]⟩,Ic,Ie,Ie] 64 (0,0))/\Sl Zh (λx=>w<x/\x≠I) wx (.slice kp kn kc) (if two then [[98],[97]] else [[97]]:List Bs)/\Below I I wx/\I+2<=wx.heap.size)
 case first=>
  by_cases ht:z1=0
  ·have h1:two=true:=by rw [H1.o,ht];rfl
   have hq:(z1==0)=true:=by rw [ht];rfl
   have k0:=cO.o
   have f2:=fA 2 k0;have y2:=AM k0
   have gK:=Z8 k0
   have eP:I.heap.size≠W6.heap.size:=Ia
   clear k0
   go_wp2_with fail
   go_meet
   generalize Y:W6.setCell _ _=WX
   have hx:WX.heap[I.heap.size]?=some (.cells #[.string ⟨#[116]⟩,Io (I+1) 0 5 5,Io W6 0 2 2,Ie,aJ,.string aL,aK,.string aM,.slice aF aO aR,.slice aG aP aS,.slice aH aQ aT,aI,aN] 48 (0,0)):=by rw [<- Y,Qi _ _ _ _ _ _ cO.o];rfl
   have gP:WX.heap[I.heap.size+1]?=some (.cells #[.string ⟨#[97]⟩,Ic,Ig,Ic,Ie,Ie,.string ⟨#[98]⟩,Ic,Ig,Ic,Ie,Ie,.string ⟨#[99]⟩,.int .i64 1,Ig,Ic,Ie,Ie,.string ⟨#[100]⟩,.int .i64 2,Ig,Ic,Ie,Ie,.string ⟨#[101]⟩,.int .i64 3,.string ⟨#[72,117,101]⟩,Ic,Ie,Ie] 64 (0,0)):=by rw [<- Y,Za (show I+1≠I.heap.size by omega)];exact dL.o
   have dB:WX.heap.size=W6.heap.size:=by rw [<- Y];simp [World.setCell]
   have cS:Below I I WX:=by rw [<- Y];exact cM.o.setCell (p:=⟨I,2,none⟩) (Q9 _) _
   rw [h1]
   exact ⟨_,_,_,Zb hx _,Zb gP _,Y4 (Y6 dB _) ⟨Ia,Ia⟩ (Rv _ _ [98] [97] Ib Ib) rfl rfl Ib,cS.alloc Ia _,by simp;omega⟩
  have h1:two=false:=by rw [H1.o];simpa using ht
  have hq:(z1==0)=false:=by simpa using ht
  go_wp2_with fail
  go_meet
  rw [h1]
  exact ⟨_,_,_,cO.o,dL.o,Y4 (Kc cM.o cW QK.o) ⟨by have:=aC.o;omega,Ia⟩ (Dq [97] Ib) rfl rfl Ib,cM.o,Ia⟩
 obtain ⟨kp,kn,kc,hT,eC,eD,hB,hZ⟩:=hcut
 obtain ⟨T,rfl⟩:∃ T,T=wc:=⟨_,rfl⟩
 obtain ⟨HT,fJ,fT,fH⟩:=It hT eC eD hB;have hR:I.heap.size+2<=T.heap.size:=hZ
 have dK:=Qq (bG.o.n hB)
 have q1:=Kc hB u1 Q1.o;have q2:=Kc hB u2 Q2.o;have q4:=Kc hB u4 Q4.o
 have t0:=Z8 q1;have t2:=Z8 q2
 clear a0 a1 a2 a3 a4 c0 c1 c2 c3 c4 hT eC eD hB hZ u0 u1 u2 u4
 obtain ⟨a0,a1,a2,a3,a4⟩:=If q1
 obtain ⟨c0,c1,c2,c3,c4⟩:=If q2
 have hM:=Qq q1;have hN:=Qq q4
 clear q1 q2 q4
 go_upto_if 48 with (go_at_call 18;refine (fX.o _ (Yj (Yj (Yj dK.o _) _) _)).mono ?_;rintro e w' ⟨rfl,rfl⟩)
 generalize D:World.alloc (World.alloc (World.alloc T _) _) _=W9
 have bA:=Iq D (Yj (Yj (Zg T _) _) _)
 have cJ:W9=T.heap.size+3:=by rw [<- D];simp
 have k2:=Ik (b:=T.heap.size) D (Zb (Zb (Y6 rfl _) _) _)
 have k3:=Ik (b:=T.heap.size+1) D (Zb (Y6 Ib _) _)
 have k4:=Ik (b:=T.heap.size+1+1) D (Y6 Ib _)
 clear D
 obtain ⟨fO,fP,fQ,dJ,hL⟩:=AO k2 k3 k4 bA cJ
 have cQ:=Qq (kB bA HT.o)
 have hS:T.heap.size+3<=W9.heap.size:=Ia
 have cC:=Qq (fH.o.trans (bA.mono Ia))
 clear k2 k3 k4 bA cJ
 go_cut [] from 47 (λwx=>∃ rp rn rc,wx.heap[I.heap.size]?=some (.cells #[.string ⟨#[116]⟩,Io (I+1) 0 5 5,.slice kp kn kc,.slice rp rn rc,aJ,.string aL,aK,.string aM,.slice aF aO aR,.slice aG aP aS,.slice aH aQ aT,aI,aN] 48 (0,0))/\Sl Di (λx=>w<x/\x≠I) wx (.slice rp rn rc) (if ref then [⟨[98],[117]⟩] else []:List Rf)/\(∀ c,c≠I.heap.size->c<W9.heap.size->wx.heap[c]?=W9.heap[c]?)/\Below I I wx/\W9<=wx.heap.size)
 case first=>
  by_cases ht:0<z2
  ·have h2:ref=true:=by rw [H2.o];simpa using ht
   have k0:=cQ.o
   have f3:=fA 3 k0;have y3:=AH k0
   have gK:=Z8 k0
   have eP:I.heap.size≠W9.heap.size:=Ia
   clear k0
   go_wp2_with fail
   go_meet
   generalize Y:W9.setCell _ _=WX
   have hx:WX.heap[I.heap.size]?=some (.cells #[.string ⟨#[116]⟩,Io (I+1) 0 5 5,.slice kp kn kc,Io W9 0 1 1,aJ,.string aL,aK,.string aM,.slice aF aO aR,.slice aG aP aS,.slice aH aQ aT,aI,aN] 48 (0,0)):=by rw [<- Y,Qi _ _ _ _ _ _ cQ.o];rfl
   have dB:WX.heap.size=W9.heap.size:=by rw [<- Y];simp [World.setCell]
   have gL:∀ c,c≠I.heap.size->WX.heap[c]?=W9.heap[c]?:=λc hc=>by rw [<- Y,Za hc]
   have cS:Below I I WX:=by rw [<- Y];exact cC.o.setCell (p:=⟨I,3,none⟩) (Q9 _) _
   rw [h2]
   exact ⟨_,_,_,Zb hx _,Y4 (r:=Di) (xs:=[(⟨[98],[117]⟩:Rf)]) (Y6 dB _) ⟨Ia,Ia⟩ (Cs.one (r:=Di) (x:=(⟨[98],[117]⟩:Rf)) (c:=[.string ⟨#[98]⟩,.string ⟨#[117]⟩]) ⟨rfl,Ib,Ib⟩) rfl rfl Ib,λc h1 h2=>((Zg WX _).block c Ia).trans (gL c h1),cS.alloc Ia _,by simp;omega⟩
  have h2:ref=false:=by rw [H2.o];simpa using ht
  go_wp2_with fail
  go_meet
  rw [h2]
  exact ⟨_,_,_,cQ.o,Sl.nil _ _ _,λc _ _=>rfl,cC.o,Q9 _⟩
 obtain ⟨rp,rn,rc,hT,eE,M,hB,hZ⟩:=hcut
 obtain ⟨A,rfl⟩:∃ A,A=wc:=⟨_,rfl⟩
 have eB:A.heap[I.heap.size+1]?=some (.cells #[.string ⟨#[97]⟩,Ic,Ig,Ic,Ie,Ie,.string ⟨#[98]⟩,Ic,Ig,Ic,Ie,Ie,.string ⟨#[99]⟩,.int .i64 1,Ig,Ic,Ie,Ie,.string ⟨#[100]⟩,.int .i64 2,Ig,Ic,Ie,Ie,.string ⟨#[101]⟩,.int .i64 3,.string ⟨#[72,117,101]⟩,Ic,Ie,Ie] 64 (0,0)):=(M _ Ia Ia).trans (kE dJ.o Ia fJ.o)
 have eS:A.heap[T.heap.size]?=some (.cells #[.string ⟨#[107]⟩,Ic,Ig,Ic,Ie,Ie,.string ⟨#[110]⟩,.int .i64 1,Ig,Ic,Ie,Ie] 64 (0,0)):=(M _ Ia Ia).trans fO.o
 have eT:A.heap[T.heap.size+1]?=some (.cells #[.string ⟨#[107]⟩] 9 (0,0)):=(M _ Ia Ia).trans fP.o
 have cX:A.heap[T.heap.size+1+1]?=some (.cells #[.string ⟨#[117]⟩,Io T 0 2 2,Io (T+1) 0 1 1,Ie,.int .i64 2,Ig,.int .i64 1,Ig,Ie,Ie,Ie,Ic,Ic] 48 (0,0)):=(M _ Ia Ia).trans fQ.o
 have eN:Sl Zh (λx=>w<x/\x≠I) A (.slice kp kn kc) (if two then [[98],[97]] else [[97]]:List Bs):=fT.o.frame (λc hc aW=>(M c hc.2 Ia).trans (dJ.o.block c aW))
 have hue:=Kc hB (Z8 Q4.o) Q4.o;have bC:=Kc hB (Z8 Q1.o) Q1.o;have eK:=Kc hB (Z8 Q3.o) Q3.o;have O:=Kc hB (Z8 Q0.o) Q0.o
 have eG:Zn.R (λx=>w<x/\x<A) A [.string ⟨#[116]⟩,Io (I+1) 0 5 5,.slice kp kn kc,.slice rp rn rc,aJ,.string aL,aK,.string aM,.slice aF aO aR,.slice aG aP aS,.slice aH aQ aT,aI,aN] ⟨[116],[⟨[97],Gen.whole⟩,⟨[98],Gen.whole⟩,⟨[99],Gen.text⟩,⟨[100],Gen.yesno⟩,⟨[101],Gen.hueT⟩],if two then [[98],[97]] else [[97]],if ref then [⟨[98],[117]⟩] else [],Gen.check k⟩:=by
  refine ⟨_,_,_,_,rfl,Ib,?_,eN.mono (λc hb h=>⟨h.1,hb⟩),eE.mono (λc hb h=>⟨h.1,hb⟩),(fK.o.move (.f hB) (λc hb h=>⟨by have h':(W3.alloc (.cells #[.string ⟨#[97]⟩] 9)).heap.size<=c:=h;have:=aC.o;simp at h';omega,Ia⟩))⟩
  exact Y4 eB ⟨Ia,Ia⟩ (((((Cs.one (r:=Xa) (U0 [97] 0 [] Ib Ib)).app (Cs.one (r:=Xa) (U0 [98] 0 [] Ib Ib))).app (Cs.one (r:=Xa) (U0 [99] 1 [] Ib Ib))).app (Cs.one (r:=Xa) (U0 [100] 2 [] Ib Ib))).app (Cs.one (r:=Xa) (U0 [101] 3 [72,117,101] Ib Ib))) rfl rfl Ib
 have eH:Zn.R (λx=>w<x/\x<A) A [.string ⟨#[117]⟩,Io T 0 2 2,Io (T+1) 0 1 1,Ie,.int .i64 2,Ig,.int .i64 1,Ig,Ie,Ie,Ie,Ic,Ic] ⟨[117],[⟨[107],Gen.whole⟩,⟨[110],Gen.text⟩],[[107]],[],Gen.yes⟩:=by
  refine ⟨_,_,_,_,rfl,Ib,?_,?_,Sl.nil _ _ _,O0 _ _ none none none 0 0 0⟩
  ·exact Y4 eS ⟨Ia,Ia⟩ ((Cs.one (r:=Xa) (U0 [107] 0 [] Ib Ib)).app (Cs.one (r:=Xa) (U0 [110] 1 [] Ib Ib))) rfl rfl Ib
  exact Y4 eT ⟨Ia,Ia⟩ (Dq [107] Ib) rfl rfl Ib
 obtain ⟨dU,dV,gZ,bW,fZ,gA⟩:=BE eG eH hB eK O bC
 have bE:=Qq (bG.o.n hB)
 have z0:=Z8 hT;have z2:=Z8 cX;have z4:=Z8 hue;have z5:=Z8 O
 clear a0 a1 a2 a3 a4 c0 c1 c2 c3 c4 eG eH eB eS eT eN eE M hB eK O bC t0 t2
 obtain ⟨p0,p1,p2,p3,p4,p5,p6,p7,p8,p9,gS,gT,gU⟩:=AP hT
 obtain ⟨q0,q1,q2,q3,q4,q5,q6,q7,q8,q9,gV,gW,gX⟩:=AP cX
 obtain ⟨m0,m1⟩:=AF hue
 clear hT cX hue
 go_upto_if 60 with (go_at_call 18;refine (fY.o _ (Yj (Yj (Yj bE.o _) _) _)).mono ?_;rintro e w' ⟨rfl,rfl⟩)
 generalize D:World.alloc (World.alloc (World.alloc A _) _) _=G
 have aA:=Iq D (Yj (Yj (Zg A _) _) _)
 have bP:G=A.heap.size+3:=by rw [<- D];simp
 have k5:=Ik (b:=A.heap.size) D (Zb (Zb (Y6 rfl _) _) _)
 have k6:=Ik (b:=A.heap.size+1) D (Zb (Y6 Ib _) _)
 have k7:=Ik (b:=A.heap.size+1+1) D (Y6 Ib _)
 clear D
 obtain ⟨dN,dO,cP,aB,hD⟩:=AO k5 k6 k7 aA bP
 have bF:=Qq (bE.o.n aA)
 have hI:A.heap.size+3<=G.heap.size:=Ia
 have O:=kE aA z5 fZ.o
 have y0:=Qk _ _ 0 _ _ _ O;have y1:=Qk _ _ 1 _ _ _ O;have dZ:=fA 0 O;have eA:=fA 1 O
 simp only [Qf,Qg,Qh] at y0 y1
 have cD:=Qq O
 clear aA bP O p0 p1 p2 p3 p4 p5 p6 p7 p8 p9 gS gT gU q0 q1 q2 q3 q4 q5 q6 q7 q8 q9 gV gW gX m0 m1
 by_cases ht:z3=0
 ·have h3:third=true:=by rw [H3.o,ht];rfl
  have hq:(z3==0)=true:=by rw [ht];rfl
  have bC:=kB aB.o gA.o
  have hQ:=Z8 bC
  have k7:=cP.o
  clear y0 y1 dZ eA
  obtain ⟨a0,a1,a2,a3,a4⟩:=If bC
  obtain ⟨s0,s1⟩:=AF k7
  have gN:=Z8 k7
  clear bC k7
  go_upto_region 14 with fail
  generalize D:World.alloc (World.alloc (World.alloc (World.alloc G _) _) _) _=N
  have J:=Iq D (Yj (Yj (Yj (Zg G _) _) _) _)
  have bQ:N=G.heap.size+4:=by rw [<- D];simp
  have k8:=Ik (b:=G.heap.size) D (Zb (Zb (Zb (Y6 rfl _) _) _) _)
  have k9:=Ik (b:=G.heap.size+1) D (Zb (Zb (Y6 Ib _) _) _)
  have eU:=Ik (b:=G.heap.size+1+1) D (Zb (Y6 Ib _) _)
  have eV:=Ik (b:=G.heap.size+1+1+1) D (Y6 Ib _)
  clear D
  obtain ⟨cB,hE,fR,fS,dM⟩:=AO J bQ k8 k9 eU
  have cN:=Qq (bF.o.n J)
  have hJ:G.heap.size+4<=N.heap.size:=Ia
  have bX:=kE J gN cP.o
  have eM:=kB J dO.o
  have bO:=kB J cD.o
  have dP:=Qq bX;have dS:=Qq bO
  have Z:=aB.o.n J
  have aY:Zn.R (λx=>(λx=>w.heap.size<x/\x≠A.heap.size+1+1) x/\x≠A+1) N [.string ⟨#[116]⟩,Io (I+1) 0 5 5,.slice kp kn kc,.slice rp rn rc,aJ,.string aL,aK,.string aM,.slice aF aO aR,.slice aG aP aS,.slice aH aQ aT,aI,aN] ⟨[116],[⟨[97],Gen.whole⟩,⟨[98],Gen.whole⟩,⟨[99],Gen.text⟩,⟨[100],Gen.yesno⟩,⟨[101],Gen.hueT⟩],if two then [[98],[97]] else [[97]],if ref then [⟨[98],[117]⟩] else [],Gen.check k⟩:=Zn.mono (Zn.frame dU.o (λc hc aW=>Z.block c aW)) (λc _ h=>⟨⟨h.1,by have:=h.2;omega⟩,by have:=h.2;omega⟩)
  have aZ:Zn.R (λx=>(λx=>w.heap.size<x/\x≠A.heap.size+1+1) x/\x≠A+1) N [.string ⟨#[117]⟩,Io T 0 2 2,Io (T+1) 0 1 1,Ie,.int .i64 2,Ig,.int .i64 1,Ig,Ie,Ie,Ie,Ic,Ic] ⟨[117],[⟨[107],Gen.whole⟩,⟨[110],Gen.text⟩],[[107]],[],Gen.yes⟩:=Zn.mono (Zn.frame dV.o (λc hc aW=>Z.block c aW)) (λc _ h=>⟨⟨h.1,by have:=h.2;omega⟩,by have:=h.2;omega⟩)
  have dQ:=Qq (own_blk (r:=Zn) (S:=(λx=>w<x/\x≠A+1+1)) (B:=A.heap.size) (n:=2) (xs:=[⟨[116],[⟨[97],Gen.whole⟩,⟨[98],Gen.whole⟩,⟨[99],Gen.text⟩,⟨[100],Gen.yesno⟩,⟨[101],Gen.hueT⟩],if two then [[98],[97]] else [[97]],if ref then [⟨[98],[117]⟩] else [],Gen.check k⟩,⟨[117],[⟨[107],Gen.whole⟩,⟨[110],Gen.text⟩],[[107]],[],Gen.yes⟩]) eM (Nat.le_succ _) ((Cs.one (r:=Zn) aY).app (Cs.one (r:=Zn) aZ)) rfl rfl Ib)
  have hV:Zn.R (But (λx=>w<x/\x≠A+1+1) (.slice (some ⟨A+1,0,none⟩) 2 2)) N [.string ⟨#[118]⟩,Io G 0 2 2,Io (G+1) 0 1 1,Io (G+1+1) 0 2 2,.int .i64 2,Ig,.int .i64 1,Ig,Ie,Ie,Ie,Ic,Ic] ⟨[118],[⟨[120],Gen.whole⟩,⟨[121],Gen.whole⟩],[[120]],[⟨[121],[118]⟩,⟨[120],[117]⟩],Gen.yes⟩:=by
   refine ⟨_,_,_,_,rfl,Ib,?_,?_,?_,O0 _ _ none none none 0 0 0⟩
   ·exact Y4 fR.o ⟨⟨Ia,Ia⟩,λe=>by have e':G=A.heap.size+1:=Qb e;omega⟩ ((Cs.one (r:=Xa) (U0 [120] 0 [] Ib Ib)).app (Cs.one (r:=Xa) (U0 [121] 0 [] Ib Ib))) rfl rfl Ib
   ·exact Y4 fS.o ⟨⟨Ia,Ia⟩,λe=>by have e':G+1=A.heap.size+1:=Qb e;omega⟩ (Dq [120] Ib) rfl rfl Ib
   exact Y4 (r:=Di) (xs:=[(⟨[121],[118]⟩:Rf),⟨[120],[117]⟩]) dM.o ⟨⟨Ia,Ia⟩,λe=>by have e':G+1+1=A.heap.size+1:=Qb e;omega⟩ ((Cs.one (r:=Di) (x:=(⟨[121],[118]⟩:Rf)) (c:=[.string ⟨#[121]⟩,.string ⟨#[118]⟩]) ⟨rfl,Ib,Ib⟩).app (Cs.one (r:=Di) (x:=(⟨[120],[117]⟩:Rf)) (c:=[.string ⟨#[120]⟩,.string ⟨#[117]⟩]) ⟨rfl,Ib,Ib⟩)) rfl rfl Ib
  have HV:=Qq hV
  have eO:w.heap.size<N.heap.size:=Z8 bO
  have cT:A.heap.size+1+1<N.heap.size:=Z8 bX
  have eR:some (A.heap.size+1+1)≠(Value.slice (some ⟨A+1,0,none⟩) 2 2).ownBlock:=λe=>by have e':A+1+1=A.heap.size+1:=Qb e;omega
  have eQ:some w.heap.size≠(Value.slice (some ⟨A+1,0,none⟩) 2 2).ownBlock:=λe=>by have e':w=A.heap.size+1:=Qb e;omega
  have fV:=Qq eR;have fU:=Qq eQ
  clear a0 a1 a2 a3 a4 s0 s1 k8 k9 eU J bQ aY aZ hV eM bO Z eR eQ
  obtain ⟨s0,s1⟩:=AF bX
  obtain ⟨v0,v1,v2,v3,v4,v5,v6,v7,v8,v9,hU,hW,hX⟩:=AP eV
  clear bX eV
  go_wp2_with (at_builtin;refine Yo (r:=Zn) Ih rfl (.tmp 73) (.tmp 75) _ rfl 48 i0 (.agg zT) 224 underlying24 HJ.o fL.o fM.o fN.o rfl Ia (λx=>w<x/\x≠A+1+1) A N (.slice (some ⟨A+1,0,none⟩) 2 2) [⟨[116],[⟨[97],Gen.whole⟩,⟨[98],Gen.whole⟩,⟨[99],Gen.text⟩,⟨[100],Gen.yesno⟩,⟨[101],Gen.hueT⟩],if two then [[98],[97]] else [[97]],if ref then [⟨[98],[117]⟩] else [],Gen.check k⟩,⟨[117],[⟨[107],Gen.whole⟩,⟨[110],Gen.text⟩],[[107]],[],Gen.yes⟩] _ [.string ⟨#[118]⟩,Io G 0 2 2,Io (G+1) 0 1 1,Io (G+1+1) 0 2 2,.int .i64 2,Ig,.int .i64 1,Ig,Ie,Ie,Ie,Ic,Ic] ⟨[118],[⟨[120],Gen.whole⟩,⟨[121],Gen.whole⟩],[[120]],[⟨[121],[118]⟩,⟨[120],[117]⟩],Gen.yes⟩ rfl dQ.o rfl HV.o (by simp [Value.oneCell']) 2 rfl Ia Ia ?_;intro eW dX gG dC cE aX;have aE:=(aX.other _ cT fV.o).trans dP.o;have s0:=Qk _ _ 0 _ _ _ aE;have s1:=Qk _ _ 1 _ _ _ aE;have hP:=fA 1 aE;have U:=(aX.other _ eO fU.o).trans dS.o;have y0:=Qk _ _ 0 _ _ _ U;have y1:=Qk _ _ 1 _ _ _ U;have dZ:=fA 0 U;have eA:=fA 1 U;simp only [Qf,Qg,Qh] at s0 s1 y0 y1;obtain ⟨hA,dT,dR,bH⟩:=It aE U cE aX;have cU:w≠A.heap.size+1+1:=Ia;clear aE U cE aX)
  generalize aV:((dC.setCell _ _).setCell _ _).setCell _ _=WF
  have cV:WF.heap[w.heap.size]?=some (.cells #[Io A 0 1 1,.slice eW (2+1) dX] 26 (0,0)):=by
   rw [<- aV]
   exact Qi _ _ 1 _ _ _ (Qi _ _ 0 _ _ _ ((Za cU).trans dT.o))
  have aD:∀ b,b≠w.heap.size->b≠A.heap.size+1+1->WF.heap[b]?=dC.heap[b]?:=λb hb gJ=>by rw [<- aV,Za hb,Za hb,Za gJ]
  have cR:Below w w WF:=by
   rw [<- aV]
   exact ((((cN.o.trans (bH.o.below.mono Ia)).setCell (p:=⟨A+1+1,1,none⟩) (by show w<=A.heap.size+1+1;omega) _).setCell (p:=⟨w,0,none⟩) (Q9 _) _).setCell (p:=⟨w,1,none⟩) (Q9 _) _)
  have bN:=Z8 bW.o
  have M:∀ b,b≠A.heap.size+1->b<N.heap.size->dC.heap[b]?=N.heap[b]?:=λb hb aW=>bH.o.other b aW (λe=>hb (Qb e))
  have o5:WF.heap[A.heap.size]?=_:=(aD _ Ia Ia).trans ((M _ Ia Ia).trans (kE cB.o Ia dN.o))
  have oc:WF.heap[w.heap.size+1+1+1]?=_:=(aD _ Ia Ia).trans ((M _ Ia Ia).trans (kE cB.o Ia ((aB.o.block _ bN).trans bW.o)))
  have eF:=dR.o.sl' (S':=(λx=>w<x/\x≠A+1+1)) Ib (λb hb=>by
   rcases bH.o.at' with e | ⟨g,e,hg⟩
   ·rw [e] at hb
    have e':A.heap.size+1=b:=Qb hb
    exact ⟨Ia,Ia⟩
   rw [e] at hb
   have e':g=b:=Qb hb
   exact ⟨Ia,Ia⟩) Ij
  have gH:=(eF.frame (w':=WF) (λb hb _=>aD b (by have:=hb.1;omega) hb.2)).mono (S':=λb=>w<=b) (λb _ h=>Nat.le_of_lt h.1)
  have cF:=λj=>Qk _ _ j _ _ _ cV
  have bI:=cF 0;have bJ:=cF 1
  simp only [Qf,Qg,Qh] at bI bJ
  refine Q7 (v:=.agg #[Io A 0 1 1,.slice eW (2+1) dX]) (by simp [results,results5,go_sem,bI,bJ]) rfl ⟨_,rfl,⟨_,_,rfl,?_,?_⟩,cR⟩
  ·refine Y4 (r:=J3) (xs:=[Gen.hue]) o5 (by show w.heap.size<=_;omega) (Cs.one (r:=J3) (c:=[.string ⟨#[72,117,101]⟩,.slice (some ⟨w+1+1+1,0,none⟩) 2 2]) ⟨_,rfl,by simp [Gen.hue],?_⟩) rfl rfl Ib
   exact Y4 (r:=Bn) (xs:=Gen.hue.ctors) oc (by show w.heap.size<=_;omega) ((Cs.one (r:=Bn) (Oo [82,101,100] false 0 Ib)).app (Cs.one (r:=Bn) (Oo [68,97,114,107] true 0 Ib))) rfl rfl (by simp [Gen.hue])
  rw [h3]
  exact gH
 have h3:third=false:=by rw [H3.o];simpa using ht
 have hq:(z3==0)=false:=by simpa using ht
 have k7:=cP.o
 obtain ⟨s0,s1⟩:=AF k7
 clear k7
 go_wp2_with fail
 generalize aV:(G.setCell _ _).setCell _ _=WF
 have cV:WF.heap[w.heap.size]?=some (.cells #[Io A 0 1 1,Io (A+1) 0 2 2] 26 (0,0)):=by
  rw [<- aV]
  exact Qi _ _ 1 _ _ _ (Qi _ _ 0 _ _ _ cD.o)
 have aD:∀ b,b≠w.heap.size->WF.heap[b]?=G.heap[b]?:=λb hb=>by rw [<- aV,Za hb,Za hb]
 have cR:Below w w WF:=by rw [<- aV];exact (bF.o.setCell (p:=⟨w,0,none⟩) (Q9 _) _).setCell (p:=⟨w,1,none⟩) (Q9 _) _
 have bN:=Z8 bW.o
 have o5:=(aD _ Ia).trans dN.o;have o6:=(aD _ Ia).trans dO.o
 have oc:=(aD (w+1+1+1) Ia).trans (kE aB.o bN bW.o)
 have eL:∀ c,w.heap.size<c/\c<A.heap.size->WF.heap[c]?=A.heap[c]?:=λc hc=>(aD c Ia).trans (aB.o.block c hc.2)
 have aY:Zn.R (λx=>w<=x) WF [.string ⟨#[116]⟩,Io (I+1) 0 5 5,.slice kp kn kc,.slice rp rn rc,aJ,.string aL,aK,.string aM,.slice aF aO aR,.slice aG aP aS,.slice aH aQ aT,aI,aN] ⟨[116],[⟨[97],Gen.whole⟩,⟨[98],Gen.whole⟩,⟨[99],Gen.text⟩,⟨[100],Gen.yesno⟩,⟨[101],Gen.hueT⟩],if two then [[98],[97]] else [[97]],if ref then [⟨[98],[117]⟩] else [],Gen.check k⟩:=Zn.mono (Zn.frame dU.o (λc hc _=>eL c hc)) (λc _ h=>by have:=h.1;show w<=c;omega)
 have aZ:Zn.R (λx=>w<=x) WF [.string ⟨#[117]⟩,Io T 0 2 2,Io (T+1) 0 1 1,Ie,.int .i64 2,Ig,.int .i64 1,Ig,Ie,Ie,Ie,Ic,Ic] ⟨[117],[⟨[107],Gen.whole⟩,⟨[110],Gen.text⟩],[[107]],[],Gen.yes⟩:=Zn.mono (Zn.frame dV.o (λc hc _=>eL c hc)) (λc _ h=>by have:=h.1;show w<=c;omega)
 have cF:=λj=>Qk _ _ j _ _ _ cV
 have bI:=cF 0;have bJ:=cF 1
 simp only [Qf,Qg,Qh] at bI bJ
 refine Q7 (v:=.agg #[Io A 0 1 1,Io (A+1) 0 2 2]) (by simp [results,results5,go_sem,bI,bJ]) rfl ⟨_,rfl,⟨_,_,rfl,?_,?_⟩,cR⟩
 ·refine Y4 (r:=J3) (xs:=[Gen.hue]) o5 (by show w.heap.size<=_;omega) (Cs.one (r:=J3) (c:=[.string ⟨#[72,117,101]⟩,.slice (some ⟨w+1+1+1,0,none⟩) 2 2]) ⟨_,rfl,by simp [Gen.hue],?_⟩) rfl rfl Ib
  exact Y4 (r:=Bn) (xs:=Gen.hue.ctors) oc (by show w.heap.size<=_;omega) ((Cs.one (r:=Bn) (Oo [82,101,100] false 0 Ib)).app (Cs.one (r:=Bn) (Oo [68,97,114,107] true 0 Ib))) rfl rfl (by simp [Gen.hue])
 rw [h3]
 exact Y4 (r:=Zn) (xs:=[⟨[116],[⟨[97],Gen.whole⟩,⟨[98],Gen.whole⟩,⟨[99],Gen.text⟩,⟨[100],Gen.yesno⟩,⟨[101],Gen.hueT⟩],if two then [[98],[97]] else [[97]],if ref then [⟨[98],[117]⟩] else [],Gen.check k⟩,⟨[117],[⟨[107],Gen.whole⟩,⟨[110],Gen.text⟩],[[107]],[],Gen.yes⟩]) o6 (by show w.heap.size<=_;omega) ((Cs.one (r:=Zn) aY).app (Cs.one (r:=Zn) aZ)) rfl rfl Ib
end Go.Proofs.YtdpibdpbgokmoaaGreatDoor
