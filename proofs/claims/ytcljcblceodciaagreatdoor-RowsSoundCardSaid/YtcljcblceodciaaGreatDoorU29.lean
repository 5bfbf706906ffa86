import Derived.Test.YtcljcblceodciaaGreatDoorU28
import Derived.Test.YtcljcblceodciaaGreatDoorU23
set_option maxRecDepth 100000
set_option maxHeartbeats 400000000
namespace Go.Proofs.YtcljcblceodciaaGreatDoor
open Go.RowKit Go.Shelf Go.Lib Tryz
theorem Bb {T:Type} {p:T->Bool} {xs:List T} {k:Nat} {x:T} (hx:xs[k]?=some x) (hp:p x=true) (hne:∀ (j:Nat) (y:T),j<k->xs[j]?=some y->p y=false):atP p xs=some x:=by
 have h:=Je hx hp hne
 rcases V5 p xs with ⟨A,_⟩ | ⟨i,y,A,h2,h3⟩
 ·rw [h] at A;omega
 rw [h] at A
 have:k=i:=C7
 subst this
 rw [hx] at h2;cases h2;exact h3
theorem Hx {T:Type} {p:T->Bool} {xs:List T} (hne:∀ (j:Nat) (y:T),xs[j]?=some y->p y=false):atP p xs=none:=by
 have h:=U4 hne
 rcases V5 p xs with ⟨_,h2⟩ | ⟨i,y,h1,_,_⟩
 ·exact h2
 rw [h] at h1;omega
theorem Ag {s:Sc} {l:List Rel} {tn:Bs} {key:List Val} (h:Yq s.tables tn=none\/key.length=0):V6 s l tn key=none:=by
 unfold V6
 rcases h with h | h
 ·rw [h]
 split
 ·rw [if_pos h]
 rfl
theorem Gx {s:Sc} {l:List Rel} {tn:Bs} {key:List Val} {T:Tbl} (h:Yq s.tables tn=some T) (hk:0<key.length):V6 s l tn key=atP (lkP T.key key) (Yo l tn):=by
 unfold V6
 rw [h]
 rcases Jz l tn with ⟨G,D⟩ | ⟨i,r,G,D,h3⟩
 ·have:atP (fun r=>decide (r.table=tn)) l=none:=by
   rcases V5 (fun r:Rel=>decide (r.table=tn)) l with ⟨_,A⟩ | ⟨i,y,A,_,_⟩
   ·exact A
   rw [D] at A;omega
  rw [this]
  unfold Yo;rw [G];rfl
 have:atP (fun r=>decide (r.table=tn)) l=some r:=by
  rcases V5 (fun r:Rel=>decide (r.table=tn)) l with ⟨A,_⟩ | ⟨j,y,A,h5,h6⟩
  ·rw [D] at A;omega
  rw [D] at A
  have:i=j:=C7
  subst this
  rw [h3] at h5;cases h5;exact h6
 rw [this]
 simp only
 rw [if_neg C7]
 unfold Yo;rw [G];simp [h3]
def RLookIs (S:Nat->Prop) (w:World) (o:Option Val) (e:Ending) (w':World):Prop:=
 ∃ cs',e=.returned (.tuple #[.agg cs'.toArray,.bool o.isSome])/\Z9 S w' cs' (o.getD Val.zero)/\Below w w w'
theorem O6 (S0 S1 S2:Nat->Prop) (s:Sc) (cs:List Value) (lv:Value) (l:List Rel) (tn:Bs) (kv:Value) (key:List Val) (w:World) (hs:Xt S0 w cs s) (hl0:Sl Y6 S1 w lv l) (hkv0:Sl Zd S2 w kv key) (hkl:∀ t ∈ s.tables,t.key.length<=1000):
  Calls prog 50 #[cs,lv,sv tn,kv] w (RLookIs S1 w (V6 s l tn key)):=by
 have hl:=hl0.up
 have HT:=Qq (fun W (hb:Below w w W)=>Ek S0 s cs tn W (hs.below hb))
 have bE:=Qq (fun W (hb:Below w w W)=>Lk _ lv l tn W (hl.below hb))
 have bP:=Qq hkv0
 obtain ⟨uv,tv,rfl,hu,ht⟩:=hs
 obtain ⟨up,uc,rfl,_⟩:=hu.len
 obtain ⟨tp,tc,rfl,_⟩:=ht.len
 obtain ⟨kp,kc,rfl,cI⟩:=hkv0.len
 obtain ⟨rows,M⟩:=eX (Yo l tn)
 rw [M] at bE
 have bF:=Qq M
 obtain ⟨res,Z⟩:=eX (V6 s l tn key)
 rw [Z]
 have aY:=Qq Z
 have cC:((Yq s.tables tn).getD Tbl.zero).key.length<=1000:=by
  cases h:Yq s.tables tn with
  | none=>exact Q8 _
  | some t=>exact hkl t (List.mem_of_find?_eq_some h)
 obtain ⟨T,hT⟩:=eX ((Yq s.tables tn).getD Tbl.zero)
 obtain ⟨b,hb⟩:=eX ((Yq s.tables tn).isSome)
 have cY:=Qq hT;have bN:=Qq hb
 rw [hT] at cC
 obtain ⟨kn,bJ⟩:=eX (key.length)
 rw [bJ] at bP cI |-
 have bQ:=Qq bJ
 unfold TabIs at HT
 rw [hT,hb] at HT
 clear hu ht hl0 hl hkv0 M Z hT hb hkl bJ
 unfold sv at HT bE |-
 go_enter func50,ntmps50
 go_wp2_with fail
 refine (HT.out _ (Zu _ _ _)).mono ?_
 rintro e w1 ⟨ct,rfl,bK,bI⟩
 obtain ⟨aJ,aI,aN,aM,aV,aU,k9,aW,n9,aX,aR,aO,aF,aS,aP,aG,aT,aQ,aH,a9,z9,cH,_⟩:=Zt bK
 have bU:=Qq bK
 simp only [tcs] at cH
 subst cH
 have bH:=(bI.block (w+1) Ca).trans (Q6 w _ _)
 have cW:=Qq ((Zu w _ _).thn bI);have bY:=Qq bH
 have bB:=Z8 bH
 clear bK bI bH HT
 go_upto_region 2 with fail
 obtain ⟨X,hX⟩:=eX (w1.heap.size)
 generalize bG:w1.alloc (.cells (Co T aJ aI aN aM aV aU k9 aW n9 aX aR aO aF aS aP aG aT aQ aH a9 z9) 48)=w2
 have aL:=eqB bG (Zg _ _)
 have cD:w2.heap[X]?=some (.cells (Co T aJ aI aN aM aV aU k9 aW n9 aX aR aO aF aS aP aG aT aQ aH a9 z9) 48 (0,0)):=by rw [<- bG,<- hX];exact Qw _ _
 have cE:=kE aL bB bY.out
 obtain ⟨bC,bX,aE⟩:=Qjq (cW.out.thn aL) cD cE
 have bV:=Qq (Zm.frame bU.out (.of_below aL))
 rw [hX] at bB |-
 clear bG aL cD cE hX bY bU
 have dK:=Z8 bX.out
 go_wp2_with (go_at_call 88;refine (bE.out _ bC.out).mono ?_;rintro e w' ⟨rp,rc,rfl,cL,rfl⟩;have aD:=Qq cL;clear cL)
 obtain ⟨n,hn⟩:=eX (rows.length)
 obtain ⟨_,_,_,dN⟩:=aD.out.len
 rw [hn] at aD dN |-
 have HN:=Qq hn
 clear hn
 by_cases hrun:b=true/\0<kn
 ·obtain ⟨rfl,bA⟩:=hrun
  have aA:Yq s.tables tn=some T:=by
   have O:=bN.out;have h2:=cY.out
   cases hq:Yq s.tables tn with
   | none=>rw [hq] at O;cases O
   | some v=>rw [hq] at h2;rw [<- h2];rfl
  have cK:res=atP (lkP T.key key) rows:=by rw [<- aY.out,Gx aA (by rw [bQ.out];exact bA),bF.out]
  have bR:=Qq cK
  have dT:(0:Int)<(kn:Int):=C7
  have dU:decide (0<kn)=true:=by simpa using bA
  clear aA cK
  go_loopw [13,14] (fun i _ wr=>∃ k:Nat,k<=n/\i=.int .i64 k/\Aside (∀ (j:Nat) (y:Val),j<k->rows[j]?=some y->lkP T.key key y=false)/\Aside (Below w2 w2 wr)) (fun i _ _=>n - (intOf i).toNat)
  case atStart=>exact ⟨0,Q8 _,rfl,fun j _ hj=>absurd hj (Z6 _),Qz _ _⟩
  obtain ⟨k,hk,rfl,A,cA⟩:=hrel
  have I:=Qq (show Below w2 w2 wr from cA)
  have bD:=Qq (bC.out.thn I.out)
  clear cA
  have dA:=Qq (kE I.out dK bX.out);have N:=Qq (kB I.out aE.out)
  have dY:=I.out.size
  by_cases U:k<n
  ·have dW:(0:Int)<=(k:Int):=C7
   have dX:(k:Int)<(n:Int):=C7
   have dL:decide (k<n)=true:=by simpa using U
   obtain ⟨y,hy⟩:∃ y,rows[k]?=some y:=⟨_,Qx (by rw [HN.out];exact U)⟩
   obtain ⟨rb,cM,q3,l3,q4,l4,rfl,Y,aB,e0,e1,e2,e3,e4⟩:=(aD.out.below I.out).val hy
   have cZ:=Qq aB;have HY:=Qq hy
   obtain ⟨x0,x1,x2,x3,x4,x5,x6,x7,x8,x9,cN,cO,cP⟩:=row13 dA.out
   go_upto_region 6 with fail
   refine let_mvar% ?Lq1:=fun w':World=>(Qji w' X T.name (.slice aJ T.columns.length aI) (.slice aN T.key.length aM) (.slice aV T.refs.length aU) k9 (.string aW) n9 (.string aX) (.slice aR aO aF) (.slice aS aP aG) (.slice aT aQ aH) a9 z9 ((Qjl w' rb (cM+k*5) y.kind y.n y.s (.slice q3 y.names.length l3) (.slice q4 y.kids.length l4) (Below wr wr w'):Prop)):Prop);?_
   have HS:∀ w',Below wr wr w'->?Lq1 w':=by
    intro w' h
    have G:∀ {b j:Nat} {u:Value},b<wr->wr.cell? ⟨b,j,none⟩=some u->w'.cell? ⟨b,j,none⟩=some u:=fun U hc=>kD h U hc
    have D:X<wr.heap.size:=C7
    exact ⟨G D x0,G D x1,G D x2,G D x3,G D x4,G D x5,G D x6,G D x7,G D x8,G D x9,G D cN,G D cO,G D cP,G Y e0,G Y e1,G Y e2,G Y e3,G Y e4,h⟩
   have J:∀ w',?Lq1 w'->Below wr wr w':=fun w' h=>h.2.2.2.2.2.2.2.2.2.2.2.2.2.2.2.2.2.2
   have HC:=Qq (fun W' (h':?Lq1 W')=>(Dt S0 (fun b=>S1 b/\b<w) T y (Co T aJ aI aN aM aV aU k9 aW n9 aX aR aO aF aS aP aG aT aQ aH a9 z9) (Cn y q3 l3 q4 l4) W' (Zm.frame bV.out (.of_below (I.out.thn (J _ h')))) (cZ.out.move (.of_below (J _ h')) Qje) cC).mono (R':=fun e w2=>∃ p n cap,e=.returned (.slice p n cap)/\Sl Zd (fun _=>True) w2 (.slice p n cap) ((keyOf T.key y).getD [])/\?Lq1 w2) (by
    rintro e w2 ⟨p,cap,rfl,h3,h4⟩
    exact ⟨p,_,cap,rfl,h3.mono (fun _ _ _=>trivial),HS _ ((J _ h').thn h4)⟩))
   have HE:=Qq (fun W' p n cap (h':?Lq1 W') (h2:Sl Zd (fun _=>True) W' (.slice p n cap) ((keyOf T.key y).getD []))=>(G7 (fun _=>True) S2 (.slice p n cap) (.slice kp kn kc) ((keyOf T.key y).getD []) key W' h2 (bP.out.below (bD.out.thn (J _ h')))).mono (R':=fun e w2=>e=.returned (.bool (lkP T.key key y))/\?Lq1 w2) (by
    rintro e w2 ⟨rfl,h4⟩
    exact ⟨rfl,HS _ ((J _ h').thn h4.bl)⟩))
   have bS:=Qq (HS wr.drew (Qz _ _).drew);have aZ:=Qq J
   obtain ⟨c,hc⟩:=eX (lkP T.key key y)
   rw [hc] at HE
   have bO:=Qq hc
   clear HS J aB hy hc x0 x1 x2 x3 x4 x5 x6 x7 x8 x9 cN cO cP e0 e1 e2 e3 e4
   go_cut [14] from 24 to 50 (fun dS wx=>dS=.bool c/\Aside (Below wr wr wx))
   case first=>
    go_region_held3 ?Lq1 (first | with_reducible exact bS.out | with_reducible exact dI | with_reducible exact cB)
     (first
      | (go_at_call 48;refine (HC.out _ Ce).mono ?_;rintro e w5 ⟨eB,eA,dZ,rfl,dM,dI⟩)
      | (go_at_call 21;refine (HE.out _ _ _ _ Ce dM).mono ?_;rintro e w6 ⟨rfl,cB⟩))
    all_goals
     go_wp2_with fail
     go_meet
     exact ⟨rfl,aZ.out _ cB⟩
   obtain ⟨rfl,cF⟩:=hcut
   have aC:=Qq (show Below wr wr wc from cF)
   clear cF HC HE bS aZ
   cases c with
   | false=>
    go_wp2_with fail
    go_roundw
    case measure=>simp [intOf];omega
    case rel=>
     refine ⟨k+1,C7,by go_num,(show Aside _ from fun j z hj hz=>?_),I.out.thn aC.out⟩
     by_cases e:j=k
     ·subst e
      have:=HY.out
      rw [this] at hz
      cases hz
      exact bO.out
     exact A.out j z C7 hz
   | true=>
    have V:res=some y:=by rw [bR.out];exact Bb HY.out bO.out A.out
    subst V
    obtain ⟨eC,dR,u3,m3,u4,m4,he,dV,aB,e0,e1,e2,e3,e4⟩:=(aD.out.below (I.out.thn aC.out)).val HY.out
    simp only [Zv,Addr.mk.injEq,and_true] at he
    obtain ⟨rfl,rfl⟩:=he
    have aK:=kB aC.out N.out
    have bZ:=Qq aK;have bW:=Qq aB
    obtain ⟨z0,z1,z2,z3,z4⟩:=row5 aK
    obtain ⟨f0,f1,f2,f3,f4⟩:=frz5 aK
    clear aK aB A
    go_wp2_with fail
    show bodyPost _ _ _ _ _ (Cu wc (w+1) y u3 m3 u4 m4)
    refine Q7 (v:=.tuple #[.agg (Cn y u3 m3 u4 m4),.bool true]) (by simp [results,results50,go_sem,Ze bZ.out]) rfl ⟨_,rfl,?_,Zc (bD.out.thn aC.out) C7⟩
    exact Z9.move bW.out (fun b hb _=>Zf (by have:=hb.2;omega)) (fun b _ hb=>hb.1)
  have cJ:k=n:=C7
  subst cJ
  have dL:decide (k<k)=false:=Ca
  have V:res=none:=by rw [bR.out];exact Hx (fun j y hy=>A.out j y (by have:=(Qj hy).1;have:=HN.out;omega) hy)
  subst V
  have bZ:=N
  obtain ⟨z0,z1,z2,z3,z4⟩:=row5 N.out
  obtain ⟨f0,f1,f2,f3,f4⟩:=frz5 N.out
  clear A U
  go_wp2_with fail
  show bodyPost _ _ _ _ _ (Zi wr (w+1) Ci Ci Cl Cm Cm)
  refine Q7 (v:=.tuple #[.agg zV,.bool false]) (by simp [results,results50,go_sem,Ze N.out]) rfl ⟨_,rfl,Yi _ _,Zc bD.out C7⟩
 have V:res=none:=by
  rw [<- aY.out]
  refine Ag ?_
  rw [bQ.out]
  cases hq:Yq s.tables tn with
  | none=>exact .inl rfl
  | some v=>
   have O:=bN.out
   rw [hq] at O
   exact .inr (by have:b=true:=O.symm;by_cases h0:0<kn;exact absurd ⟨this,h0⟩ hrun;omega)
 subst V
 go_loopw [13,14] (fun i _ wr=>i=.int .i64 0/\w2=wr) (fun _ _ _=>0)
 case atStart=>exact ⟨rfl,rfl⟩
 obtain ⟨rfl,rfl⟩:=hrel
 obtain ⟨z0,z1,z2,z3,z4⟩:=row5 aE.out
 obtain ⟨f0,f1,f2,f3,f4⟩:=frz5 aE.out
 have dP:(0<n/\b=true/\kn=0)\/(0<n/\b=false)\/n=0:=by
  by_cases O:n=0
  ·exact .inr (.inr O)
  cases hbq:b with
  | false=>exact .inr (.inl ⟨C7,rfl⟩)
  | true=>exact .inl ⟨C7,rfl,by by_cases h0:0<kn;exact absurd ⟨hbq,h0⟩ hrun;omega⟩
 clear hrun
 rcases dP with ⟨O,rfl,rfl⟩ | ⟨O,rfl⟩ | rfl
 focus
  have g1:(0:Int)<(n:Int):=C7
  have g2:decide (0<n)=true:=by simpa using O
  go_wp2_with fail
 rotate_left
 focus
  have g1:(0:Int)<(n:Int):=C7
  have g2:decide (0<n)=true:=by simpa using O
  go_wp2_with fail
 rotate_left
 focus
  go_wp2_with fail
 all_goals
  show bodyPost _ _ _ _ _ (Zi w2 (w+1) Ci Ci Cl Cm Cm)
  refine Q7 (v:=.tuple #[.agg zV,.bool false]) (by simp [results,results50,go_sem,Ze aE.out]) rfl ⟨_,rfl,Yi _ _,Zc bC.out C7⟩
theorem M6 (S:Nat->Prop) (v:Value) (l:List Int) (w:World) (hs:Xd S w v l) (hi:Uh l) (hk:Yl l 0 13=0):
  Calls prog 26 #[v,Ci] w (Uo w (Gen.check 0)):=by
 have HP:=Qq (fun W (hb:Below w w W)=>Yn S v l 0 13 W (hs.below hb) hi C7 C7)
 rw [hk] at HP
 obtain ⟨p,cap,rfl,_⟩:=hs.len
 clear hs hi hk
 go_enter func26,ntmps26
 go_upto_region 8 with fail
 generalize A:(((((((w.alloc _).alloc _).alloc _).alloc _).alloc _).alloc _).alloc _).alloc _=N
 have J:=eqB A (Yj (Yj (Yj (Yj (Yj (Yj (Yj (Zg w _) _) _) _) _) _) _) _)
 have M:N=w.heap.size+8:=by rw [<- A];simp
 have r8:=eqH (b:=w.heap.size) A (Zb (Zb (Zb (Zb (Zb (Zb (Zb (Y3 rfl _) _) _) _) _) _) _) _)
 have D:=eqH (b:=w.heap.size+1+1+1+1+1+1+1) A (Y3 Ca _)
 have aE:w.heap.size<N.heap.size:=C7
 have aF:w.heap.size≠N.heap.size:=C7
 have aD:=Qq M
 clear M
 have I:=Qq J;have G:=Qq r8
 clear A J r8
 obtain ⟨O,T,U,V,Y,Z,aA,aB,aC⟩:=row9 D
 clear D
 go_upto_region 12 with (go_at_call 27;refine (HP.out _ I.out).mono ?_;rintro e w' ⟨rfl,rfl⟩)
 obtain ⟨y0,y1,y2,y3,y4,y5,y6,y7,y8⟩:=row9 G.out
 obtain ⟨f0,f1,f2,f3,f4,f5,f6,f7,f8⟩:=frz9 G.out
 go_wp2_with fail
 show bodyPost _ _ _ _ _ (put9 N w (.int .i64 2) Cl (.int .i64 1) Cl Cm Cm Cm Ci Ci)
 exact Q7 (v:=.agg #[.int .i64 2,Cl,.int .i64 1,Cl,Cm,Cm,Cm,Ci,Ci]) (by simp [results,results26,go_sem,Xb G.out]) rfl (U3 (Yk 2 [] 1 [] Ca Ca) I.out rfl)
theorem Mj (S:Nat->Prop) (v:Value) (l:List Int) (w:World) (hs:Xd S w v l) (hi:Uh l) (hk:Yl l 0 13=1):
  Calls prog 26 #[v,Ci] w (Uo w (Gen.check 1)):=by
 have HP:=Qq (fun W (hb:Below w w W)=>Yn S v l 0 13 W (hs.below hb) hi C7 C7)
 rw [hk] at HP
 obtain ⟨p,cap,rfl,_⟩:=hs.len
 clear hs hi hk
 go_enter func26,ntmps26
 go_upto_region 8 with fail
 generalize A:(((((((w.alloc _).alloc _).alloc _).alloc _).alloc _).alloc _).alloc _).alloc _=N
 have J:=eqB A (Yj (Yj (Yj (Yj (Yj (Yj (Yj (Zg w _) _) _) _) _) _) _) _)
 have M:N=w.heap.size+8:=by rw [<- A];simp
 have r8:=eqH (b:=w.heap.size) A (Zb (Zb (Zb (Zb (Zb (Zb (Zb (Y3 rfl _) _) _) _) _) _) _) _)
 have D:=eqH (b:=w.heap.size+1+1+1+1+1+1+1) A (Y3 Ca _)
 have aE:w.heap.size<N.heap.size:=C7
 have aF:w.heap.size≠N.heap.size:=C7
 have aD:=Qq M
 clear M
 have I:=Qq J;have G:=Qq r8
 clear A J r8
 obtain ⟨O,T,U,V,Y,Z,aA,aB,aC⟩:=row9 D
 clear D
 go_upto_region 12 with (go_at_call 27;refine (HP.out _ I.out).mono ?_;rintro e w' ⟨rfl,rfl⟩)
 obtain ⟨y0,y1,y2,y3,y4,y5,y6,y7,y8⟩:=row9 G.out
 obtain ⟨f0,f1,f2,f3,f4,f5,f6,f7,f8⟩:=frz9 G.out
 go_wp2_with fail
 show bodyPost _ _ _ _ _ (put9 N w (.int .i64 2) Cl (.int .i64 1) Cl Cm Cm Cm Ci Ci)
 exact Q7 (v:=.agg #[.int .i64 2,Cl,.int .i64 1,Cl,Cm,Cm,Cm,Ci,Ci]) (by simp [results,results26,go_sem,Xb G.out]) rfl (U3 (Yk 2 [] 1 [] Ca Ca) I.out rfl)
theorem M9 (S:Nat->Prop) (v:Value) (l:List Int) (w:World) (hs:Xd S w v l) (hi:Uh l) (hk:Yl l 0 13=2):
  Calls prog 26 #[v,Ci] w (Uo w (Gen.check 2)):=by
 have HP:=Qq (fun W (hb:Below w w W)=>Yn S v l 0 13 W (hs.below hb) hi C7 C7)
 rw [hk] at HP
 obtain ⟨p,cap,rfl,_⟩:=hs.len
 clear hs hi hk
 go_enter func26,ntmps26
 go_upto_region 8 with fail
 generalize A:(((((((w.alloc _).alloc _).alloc _).alloc _).alloc _).alloc _).alloc _).alloc _=N
 have J:=eqB A (Yj (Yj (Yj (Yj (Yj (Yj (Yj (Zg w _) _) _) _) _) _) _) _)
 have M:N=w.heap.size+8:=by rw [<- A];simp
 have r8:=eqH (b:=w.heap.size) A (Zb (Zb (Zb (Zb (Zb (Zb (Zb (Y3 rfl _) _) _) _) _) _) _) _)
 have D:=eqH (b:=w.heap.size+1+1+1+1+1+1+1) A (Y3 Ca _)
 have aE:w.heap.size<N.heap.size:=C7
 have aF:w.heap.size≠N.heap.size:=C7
 have aD:=Qq M
 clear M
 have I:=Qq J;have G:=Qq r8
 clear A J r8
 obtain ⟨O,T,U,V,Y,Z,aA,aB,aC⟩:=row9 D
 clear D
 go_upto_region 12 with (go_at_call 27;refine (HP.out _ I.out).mono ?_;rintro e w' ⟨rfl,rfl⟩)
 obtain ⟨y0,y1,y2,y3,y4,y5,y6,y7,y8⟩:=row9 G.out
 obtain ⟨f0,f1,f2,f3,f4,f5,f6,f7,f8⟩:=frz9 G.out
 go_wp2_with fail
 show bodyPost _ _ _ _ _ (put9 N w (.int .i64 2) Cl (.int .i64 1) Cl Cm Cm Cm Ci Ci)
 exact Q7 (v:=.agg #[.int .i64 2,Cl,.int .i64 1,Cl,Cm,Cm,Cm,Ci,Ci]) (by simp [results,results26,go_sem,Xb G.out]) rfl (U3 (Yk 2 [] 1 [] Ca Ca) I.out rfl)
theorem Wf (S:Nat->Prop) (v:Value) (l:List Int) (w:World) (hs:Xd S w v l) (hi:Uh l) (hk:Yl l 0 13=9):
  Calls prog 26 #[v,Ci] w (Uo w (Gen.check 9)):=by
 have HP:=Qq (fun W (hb:Below w w W)=>Yn S v l 0 13 W (hs.below hb) hi C7 C7)
 rw [hk] at HP
 obtain ⟨p,cap,rfl,_⟩:=hs.len
 clear hs hi hk
 go_enter func26,ntmps26
 go_upto_region 8 with fail
 generalize D:(((((((w.alloc _).alloc _).alloc _).alloc _).alloc _).alloc _).alloc _).alloc _=A
 have aP:=eqB D (Yj (Yj (Yj (Yj (Yj (Yj (Yj (Zg w _) _) _) _) _) _) _) _)
 have aS:A=w.heap.size+8:=by rw [<- D];simp
 have r8:=eqH (b:=w.heap.size) D (Zb (Zb (Zb (Zb (Zb (Zb (Zb (Y3 rfl _) _) _) _) _) _) _) _)
 have hc:=eqH (b:=w.heap.size+1+1+1) D (Zb (Zb (Zb (Zb (Y3 Ca _) _) _) _) _)
 have bK:w.heap.size<A.heap.size:=C7
 have bL:w.heap.size≠A.heap.size:=C7
 have bJ:=Qq aS
 clear aS
 have U:=Qq aP;have V:=Qq r8
 clear D aP r8
 obtain ⟨c0,c1,c2,c3,c4,c5,c6,c7,c8⟩:=row9 hc
 clear hc
 go_upto_region 28 with (go_at_call 27;refine (HP.out _ U.out).mono ?_;rintro e w' ⟨rfl,rfl⟩)
 go_wp2_with (first
   | (go_at_call 84;refine (V0 w [61,61] _ _ (Cp aX aZ aY bA aT bC bF aU bD bG aV bE bH aW bB) [.int .i64 1,Cl,Ci,Cl,Cm,Cm,Cm,Ci,Ci] _ Ca G.out (Yk 1 [] 0 [] Ca Ca) (by have h:=(O.out:Below A A _).size;omega)).mono ?_;rintro e w2 ⟨aC,aE,aD,aF,Y,aH,aK,Z,aI,aL,aA,aJ,aM,aB,aG,rfl,aR,M⟩;have I:Below A A w2:=(O.out).thn M;have J:=kE I (show w<A.heap.size by omega) V.out;obtain ⟨y0,y1,y2,y3,y4,y5,y6,y7,y8⟩:=row9 J;obtain ⟨f0,f1,f2,f3,f4,f5,f6,f7,f8⟩:=frz9 J;clear J;obtain ⟨bI,N,T⟩:=Qjq (G.out.move (.of_below M) Qje) aR I;clear aR M I)
   | (go_at_call 84;refine (V0 w [43,43] _ _ [.int .i64 3,.string ⟨#[99]⟩,Ci,Cl,Cm,Cm,Cm,Ci,Ci] [.int .i64 3,.string ⟨#[99]⟩,Ci,Cl,Cm,Cm,Cm,Ci,Ci] _ Ca (Yk 3 [99] 0 [] Ca Ca) (Yk 3 [99] 0 [] Ca Ca) (by have h:=((Qz _ _):Below A A _).size;omega)).mono ?_;rintro e w1 ⟨aX,aZ,aY,bA,aT,bC,bF,aU,bD,bG,aV,bE,bH,aW,bB,rfl,aQ,aO⟩;have aN:Below A A w1:=((Qz _ _)).thn aO;have G:=Qq aQ;have O:=Qq aN;clear aQ aO aN))
 have hR:=kE T.out C7 V.out
 show bodyPost _ _ _ _ _ (put9 w2 w aC (.string aE) aD (.string aF) (.slice Y aH aK) (.slice Z aI aL) (.slice aA aJ aM) aB aG)
 exact Q7 (v:=.agg (Cp aC aE aD aF Y aH aK Z aI aL aA aJ aM aB aG)) (by simp [results,results26,go_sem,Xb hR]) rfl (U3 N.out (U.out.thn T.out) rfl)
theorem Oh (S:Nat->Prop) (v:Value) (l:List Int) (w:World) (hs:Xd S w v l) (hi:Uh l) (hk:Yl l 0 13=12):
  Calls prog 26 #[v,Ci] w (Uo w (Gen.check 12)):=by
 have HP:=Qq (fun W (hb:Below w w W)=>Yn S v l 0 13 W (hs.below hb) hi C7 C7)
 rw [hk] at HP
 obtain ⟨p,cap,rfl,_⟩:=hs.len
 clear hs hi hk
 go_enter func26,ntmps26
 go_upto_region 8 with fail
 generalize J:(((((((w.alloc _).alloc _).alloc _).alloc _).alloc _).alloc _).alloc _).alloc _=N
 have Z:=eqB J (Yj (Yj (Yj (Yj (Yj (Yj (Yj (Zg w _) _) _) _) _) _) _) _)
 have aA:N=w.heap.size+8:=by rw [<- J];simp
 have r8:=eqH (b:=w.heap.size) J (Zb (Zb (Zb (Zb (Zb (Zb (Zb (Y3 rfl _) _) _) _) _) _) _) _)
 have Y:w.heap.size<N.heap.size:=C7
 have aD:w.heap.size≠N.heap.size:=C7
 have aC:=Qq aA
 clear aA
 have O:=Qq Z;have aB:=Qq r8
 clear J Z r8
 go_upto_region 33 with (go_at_call 27;refine (HP.out _ O.out).mono ?_;rintro e w' ⟨rfl,rfl⟩)
 have D:=Qq True.intro
 go_wp2_with (have hk:=D.out;clear D hk;generalize G:World.alloc N _=W9;have I:=eqB G (Zg _ _);have M:=eqH (b:=N.heap.size) G (Qw _ _);have A:=kE I Y aB.out;obtain ⟨y0,y1,y2,y3,y4,y5,y6,y7,y8⟩:=row9 A;obtain ⟨f0,f1,f2,f3,f4,f5,f6,f7,f8⟩:=frz9 A;obtain ⟨U,T,V⟩:=Qjq M I A;clear G M I A)
 show bodyPost _ _ _ _ _ (put9 W9 w (.int .i64 4) (.string ⟨#[97,110,121]⟩) Ci Cl Cm Cm (Cg N 0 1 1) Ci Ci)
 exact Q7 (v:=.agg #[.int .i64 4,.string ⟨#[97,110,121]⟩,Ci,Cl,Cm,Cm,Cg N 0 1 1,Ci,Ci]) (by simp [results,results26,go_sem,Xb V.out]) rfl (U3 (Xj (nm:=[97,110,121]) (s:=[]) Ca Ca (Sl.nil _ _ _) (Sl.nil _ _ _) (Y2 (xs:=[Ex.mk 9 [] 0 [] [] [] [] 0 0]) U.out Y (Cs.one (r:=Xp) (x:=Ex.mk 9 [] 0 [] [] [] [] 0 0) (c:=[.int .i64 9,.string ⟨#[]⟩,.int .i64 0,.string ⟨#[]⟩,.slice none 0 0,.slice none 0 0,.slice none 0 0,.int .i64 0,.int .i64 0]) (show Yx _ _ _ _ from Yk 9 [] 0 [] Ca Ca)) rfl rfl Ca)) (O.out.thn T.out) rfl)
theorem Rm (S:Nat->Prop) (v:Value) (l:List Int) (w:World) (hs:Xd S w v l) (hi:Uh l) (hk:Yl l 0 13=11):
  Calls prog 26 #[v,Ci] w (Uo w (Gen.check 11)):=by
 have HP:=Qq (fun W (hb:Below w w W)=>Yn S v l 0 13 W (hs.below hb) hi C7 C7)
 rw [hk] at HP
 obtain ⟨p,cap,rfl,_⟩:=hs.len
 clear hs hi hk
 go_enter func26,ntmps26
 go_upto_region 8 with fail
 generalize G:(((((((w.alloc _).alloc _).alloc _).alloc _).alloc _).alloc _).alloc _).alloc _=W8
 have bE:=eqB G (Yj (Yj (Yj (Yj (Yj (Yj (Yj (Zg w _) _) _) _) _) _) _) _)
 have bG:W8=w.heap.size+8:=by rw [<- G];simp
 have r8:=eqH (b:=w.heap.size) G (Zb (Zb (Zb (Zb (Zb (Zb (Zb (Y3 rfl _) _) _) _) _) _) _) _)
 have ha:=eqH (b:=w.heap.size+1) G (Zb (Zb (Zb (Zb (Zb (Zb (Y3 Ca _) _) _) _) _) _) _)
 have hb:=eqH (b:=w.heap.size+1+1) G (Zb (Zb (Zb (Zb (Zb (Y3 Ca _) _) _) _) _) _)
 have aA:=eqH (b:=w.heap.size+1+1+1+1+1+1) G (Zb (Y3 Ca _) _)
 have Y:w.heap.size<W8.heap.size:=C7
 have bN:w.heap.size≠W8.heap.size:=C7
 have bL:=Qq bG
 clear bG
 have aN:=Qq bE;have bJ:=Qq r8
 clear G bE r8
 obtain ⟨a0,a1,a2,a3,a4,a5,a6,a7,a8⟩:=row9 ha
 clear ha
 obtain ⟨b0,b1,b2,b3,b4,b5,b6,b7,b8⟩:=row9 hb
 clear hb
 obtain ⟨aB,aC,aD,aE,aF,aG,aH,aI,aJ⟩:=row9 aA
 clear aA
 go_upto_region 32 with (go_at_call 27;refine (HP.out _ aN.out).mono ?_;rintro e w' ⟨rfl,rfl⟩)
 have N:=Qq True.intro;have O:=Qq True.intro
 go_wp2_with (first
   | (have hk:=N.out;clear N hk;generalize T:World.alloc W8 _=W9;have A:=eqB T (Zg _ _);have Z:=eqH (b:=W8.heap.size) T (Qw _ _);have a0:=kC A a0;have a1:=kC A a1;have a2:=kC A a2;have a3:=kC A a3;have a4:=kC A a4;have a5:=kC A a5;have a6:=kC A a6;have a7:=kC A a7;have a8:=kC A a8;have aB:=kC A aB;have aC:=kC A aC;have aD:=kC A aD;have aE:=kC A aE;have aF:=kC A aF;have aG:=kC A aG;have aH:=kC A aH;have aI:=kC A aI;have aJ:=kC A aJ;have aO:=Qq Z;have J:=Qq A;clear T Z A)
   | (have hk:=O.out;clear O hk;generalize I:World.alloc W9 _=bM;have U:=eqB I (Zg _ _);have M:=eqH (b:=W9.heap.size) I (Qw _ _);have aK:=Qq M;have D:=Qq U;clear I M U)
   | (go_at_call 84;refine (V0 w [33,61] _ _ [.int .i64 9,Cl,Ci,Cl,Cm,Cm,Cg W8 0 2 2,Ci,Ci] [.int .i64 9,Cl,Ci,Cl,Cm,Cm,Cg W9 0 2 2,Ci,Ci] _ Ca (Xj (nm:=[]) (s:=[]) Ca Ca (Sl.nil _ _ _) (Sl.nil _ _ _) (Y2 (xs:=[Gen.a,Gen.b]) (kB D.out aO.out) Y ((Cs.one (r:=Xp) (Yk 3 [97] 0 [] Ca Ca)).app (Cs.one (r:=Xp) (Yk 3 [98] 0 [] Ca Ca))) rfl rfl Ca)) (Xj (nm:=[]) (s:=[]) Ca Ca (Sl.nil _ _ _) (Sl.nil _ _ _) (Y2 (xs:=[Gen.one,Gen.a]) aK.out (Qa Y J.out.size) ((Cs.one (r:=Xp) (Yk 0 [] 1 [] Ca Ca)).app (Cs.one (r:=Xp) (Yk 3 [97] 0 [] Ca Ca))) rfl rfl Ca)) (Qa Y (J.out.thn D.out).size)).mono ?_;rintro e w1 ⟨aT,aV,aU,aW,aP,aY,bB,aQ,aZ,bC,aR,bA,bD,aS,aX,rfl,bF,aL⟩;have V:=kE (J.out.thn (D.out.thn aL)) Y bJ.out;obtain ⟨y0,y1,y2,y3,y4,y5,y6,y7,y8⟩:=row9 V;obtain ⟨f0,f1,f2,f3,f4,f5,f6,f7,f8⟩:=frz9 V;have bI:=Qq V;clear V;have H1:=Qq bF;have bH:=Qq aL;clear bF aL))
 show bodyPost _ _ _ _ _ (put9 w1 w aT (.string aV) aU (.string aW) (.slice aP aY bB) (.slice aQ aZ bC) (.slice aR bA bD) aS aX)
 exact Q7 (v:=.agg (Cp aT aV aU aW aP aY bB aQ aZ bC aR bA bD aS aX)) (by simp [results,results26,go_sem,Xb bI.out]) rfl (U3 H1.out (aN.out.thn (J.out.thn (D.out.thn bH.out))) rfl)
theorem Um.none {n:Nat} {cf:Nat->Nat->Ft} {nm:Nat->Bs} {f:Ft} (h:Um n cf nm f) (hz:∀ c i,c<5->i<n->(cf c i).code=0):f=Ft.zero:=by
 rcases h with ⟨h,_⟩ | ⟨c,i,hc,hi,A,_⟩
 ·exact h
 exact absurd (hz c i hc hi) A
theorem Um.at {n:Nat} {cf:Nat->Nat->Ft} {nm:Nat->Bs} {f:Ft} (h:Um n cf nm f) (c0 i0:Nat) (hc0:c0<5) (hi0:i0<n) (hne0:(cf c0 i0).code≠0) (hb0:∀ c i,i<n->(c<c0\/c=c0/\i<i0)->(cf c i).code=0):
  f.code=(cf c0 i0).code/\f.table=nm i0:=by
 rcases h with ⟨_,h⟩ | ⟨c,i,hc,hi,A,rfl,hb⟩
 ·exact absurd (h c0 i0 hc0 hi0) hne0
 have h1:¬ (c<c0\/c=c0/\i<i0):=fun h=>A (hb0 c i hi h)
 have h2:¬ (c0<c\/c0=c/\i0<i):=fun h=>hne0 (hb c0 i0 hi0 h)
 have e1:c=c0:=C7
 have e2:i=i0:=C7
 subst e1;subst e2
 exact ⟨rfl,rfl⟩
theorem E8 {T:Type} {cf:T->T->Int} {xs:List T} (h:xs.Pairwise fun x y=>0<=cf y x):Srt cf xs:=by
 intro i j x y A hx hy
 obtain ⟨hi,rfl⟩:=Qj hx
 obtain ⟨hj,rfl⟩:=Qj hy
 exact List.pairwise_iff_getElem.1 h i j hi hj A
def K1 (v:Val):List Int:=match v.kids with
 | x::_=>[x.n]
 | []=>[]
def tyK:Ty->Int | .mk k _ _ _ _=>k
theorem L9 (us:List Sm) (x:Val) (y:Ty) (h:tyK y=0\/tyK y=1\/tyK y=2):Kf us x y (x.kind==tyK y):=by
 obtain ⟨k,s,n,names,kids⟩:=y
 exact Sr us x k h s n names kids
namespace Law
def tT:Tbl:=⟨[116],[⟨[97],Gen.whole⟩,⟨[98],Gen.whole⟩],[[97]],[⟨[98],[117]⟩],Gen.op [60] [Gen.a,Gen.b]⟩
def uT:Tbl:=⟨[117],[⟨[107],Gen.whole⟩],[[107]],[],Gen.yes⟩
def sc:Sc:=⟨[],[tT,uT]⟩
def rT (x y:Int):Val:=Vw [[97],[98]] [Yf x,Yf y]
def rU (x:Int):Val:=Vw [[107]] [Yf x]
def st (l:List (Int × Int)):List Rel:=[⟨[116],l.map fun p=>rT p.1 p.2⟩,⟨[117],[rU 3]⟩]
theorem wordA:Vy [97]:=⟨Cc,Cc,by intro c hc;simp at hc;subst hc;decide,Cc,Cc⟩
theorem wordB:Vy [98]:=⟨Cc,Cc,by intro c hc;simp at hc;subst hc;decide,Cc,Cc⟩
theorem wordK:Vy [107]:=⟨Cc,Cc,by intro c hc;simp at hc;subst hc;decide,Cc,Cc⟩
def A6 (v:Val):Bool:=match v.kids with
 | x::y::_=>decide (Yv x y<0)
 | _=>true
theorem tT_ok (l:List (Int × Int)) (hl:l.length<=1000) (hb:∀ p ∈ l,(-1000<=p.1/\p.1<=1000)/\-1000<=p.2/\p.2<=1000):Ov [] tT (l.map fun p=>rT p.1 p.2) (fun _=>true) A6 K1 where
 srt:=E8 Cc
 few:=Cc
 some:=Cc
 typed:=by
  intro x D
  obtain ⟨p,A,rfl⟩:=List.mem_map.1 D
  refine ⟨.record _ _ rfl ?_ ?_ ?_,?_⟩
  ·intro y J
   simp at J
   rcases J with rfl | rfl
   ·exact wordA
   exact wordB
  ·intro i a b G hb
   match i,G,hb with
   | 0,G,hb=>simp at G hb;subst G;subst hb;decide
   | i+1,G,hb=>simp at hb
  ·intro k hk
   simp at hk
   have hq:=hb p A
   rcases hk with rfl | rfl <;> exact .int _ ⟨C7,C7⟩
  have:=Mg [] (rT p.1 p.2) [] [[97],[98]] [Gen.whole,Gen.whole] (fun x y=>x.kind==tyK y) (fun x _ y J=>L9 [] x y (by
   simp at J;subst J;exact .inl rfl))
  exact this
 keys:=fun _=>⟨fun r I=>by obtain ⟨p,A,rfl⟩:=List.mem_map.1 I;rfl,fun r I x D=>by
  obtain ⟨p,A,rfl⟩:=List.mem_map.1 I
  have:=hb p A
  simp [K1,rT,Vw,Val.kids,Yf,Val.n] at D
  subst D;omega,fun r I=>by obtain ⟨p,A,rfl⟩:=List.mem_map.1 I;exact (by decide:1<=3)⟩
 many:=by rw [Z7];omega
 key:=Cc
 check:=by
  intro _ x D
  obtain ⟨p,A,rfl⟩:=List.mem_map.1 D
  refine Nc Cc ?_ (Q9 2)
  exact ev_less 0 [] [] [] Gen.a Gen.b 0 0 _ (Yf p.1) (Yf p.2) (Pu [97] 0 [] [] [] [] 0 0 _ _ rfl) (Pu [98] 0 [] [] [] [] 0 0 _ _ rfl)
theorem uT_ok:Ov [] uT [rU 3] (fun _=>true) (fun _=>true) K1 where
 srt:=E8 Cc
 few:=Cc
 some:=Cc
 typed:=by
  intro x D
  simp at D
  subst D
  refine ⟨.record _ _ rfl ?_ ?_ ?_,?_⟩
  ·intro y G
   simp at G
   subst G
   exact wordK
  ·intro i a b ha hb
   simp at hb
  ·intro k hk
   simp at hk
   subst hk;exact .int _ Cc
  have:=Mg [] (rU 3) [] [[107]] [Gen.whole] (fun x y=>x.kind==tyK y) (fun x _ y G=>L9 [] x y (by
   simp at G;subst G;exact .inl rfl))
  exact this
 keys:=fun _=>⟨fun r A=>by simp at A;subst A;rfl,fun r A x D=>by
  simp at A;subst A
  simp [K1,rU,Vw,Val.kids,Yf,Val.n] at D
  subst D;omega,fun r A=>by simp at A;subst A;decide⟩
 many:=Cc
 key:=Cc
 check:=by
  intro _ x D
  simp at D
  subst D
  refine Nc Cc ?_ Cc
  exact Sa [] 1 [] [] [] [] 0 0 _
def cf (l:List (Int × Int)):Nat->Nat->Ft:=Aj sc (st l) (fun _ _=>true) (fun i=>if i=0 then A6 else fun _=>true) (fun _=>K1)
theorem st_ok (l:List (Int × Int)) (hl:l.length<=1000) (hb:∀ p ∈ l,(-1000<=p.1/\p.1<=1000)/\-1000<=p.2/\p.2<=1000) (i:Nat) (t:Tbl) (r:Rel) (ht:sc.tables[i]?=some t) (hr:(st l)[i]?=some r):
  Ov sc.sums t r.rows ((fun _ _=>true:Nat->Val->Bool) i) ((fun i=>if i=0 then A6 else fun _=>true:Nat->Val->Bool) i) ((fun _=>K1:Nat->Val->List Int) i):=by
 match i,ht,hr with
 | 0,ht,hr=>
  cases ht;cases hr
  exact tT_ok l hl hb
 | 1,ht,hr=>
  cases ht;cases hr
  exact uT_ok
 | i+2,ht,hr=>simp [sc] at ht
theorem cf_u (l:List (Int × Int)) (c:Nat) (hc:c<5):(cf l c 1).code=0:=by
 match c,hc with
 | 0,_=>show (Na [rU 3]).code=0;rw [Lj Cc];rfl
 | 1,_=>show (Vi 9 (fun _=>true) [rU 3]).code=0;rw [Jf (fun _ _=>rfl)];rfl
 | 2,_=>
  show (Uk [rU 3] (ust [rU 3].length ([rU 3].map fun r=>kb (K1 r)) [rU 3].length)).code=0
  rw [Ld rfl (fun i j a b A ha hb=>by
   have h1:=(Qj hb).1
   simp at h1
   omega)]
  rfl
 | 3,_=>rfl
 | 4,_=>show (Vi 13 (fun _=>true) [rU 3]).code=0;rw [Jf (fun _ _=>rfl)];rfl
theorem Sn (l:List (Int × Int)) (hl:l.length<=256):(cf l 0 0).code=0:=by
 show (Na (l.map fun p=>rT p.1 p.2)).code=0
 rw [Lj (by rw [Z7];exact hl)];rfl
theorem Tk (l:List (Int × Int)):(cf l 1 0).code=0:=by
 show (Vi 9 (fun _=>true) (l.map fun p=>rT p.1 p.2)).code=0
 rw [Jf (fun _ _=>rfl)];rfl
theorem kb1_inj {a b:Int} (h:kb [a]=kb [b]):a=b:=by
 unfold kb at h
 simp at h
 exact encI_inj h
theorem cf_t2 (l:List (Int × Int)) (hd:(l.map Prod.fst).Pairwise (·≠·)):(cf l 2 0).code=0:=by
 show (Uk (l.map fun p=>rT p.1 p.2) (ust (l.map fun p=>rT p.1 p.2).length ((l.map fun p=>rT p.1 p.2).map fun r=>kb (K1 r)) (l.map fun p=>rT p.1 p.2).length)).code=0
 rw [Ld (by rw [Z7]) (fun i j a b D A hb=>?_)]
 ·rfl
 rw [List.map_map,List.getElem?_map] at A hb
 cases hx:l[i]? with
 | none=>rw [hx] at A;cases A
 | some x=>
  cases hy:l[j]? with
  | none=>rw [hy] at hb;cases hb
  | some y=>
   rw [hx] at A;rw [hy] at hb
   cases A;cases hb
   intro e
   have e1:x.1=y.1:=kb1_inj e
   obtain ⟨hi,G⟩:=Qj hx
   obtain ⟨hj,I⟩:=Qj hy
   have:=List.pairwise_iff_getElem.1 hd i j (by simpa using hi) (by simpa using hj) D
   simp only [List.getElem_map] at this
   rw [G,I] at this
   exact this e1
theorem cf_t2d (a x y:Int):(cf [(a,x),(a,y)] 2 0).code=11:=by
 show (Uk [rT a x,rT a y] (ust 2 [kb [a],kb [a]] 2)).code=11
 generalize kb [a]=k
 have:ust 2 [k,k] 2=(0,1):=by
  show Ub [k] (Ub [] (2,0) k) k=(0,1)
  have h1:Xq [] k=none:=rfl
  have h2:Xq [k] k=some 0:=by unfold Xq;simp
  unfold Ub
  rw [h1]
  simp only [h2]
  rfl
 rw [this]
 rfl
theorem refT (l:List (Int × Int)) (a y:Int):Fg sc (st l) ⟨[98],[117]⟩ (rT a y)=decide (y=3):=by
 show (V6 sc (st l) [117] [Yf y]).isSome=_
 have h1:V6 sc (st l) [117] [Yf y]=atP (lkP [[107]] [Yf y]) [rU 3]:=rfl
 rw [h1]
 have h2:lkP [[107]] [Yf y] (rU 3)=decide (y=3):=by
  show eqL eqv [Yf 3] [Yf y]=_
  simp only [eqL,Bool.and_true]
  unfold eqv
  rw [decide_eq_decide]
  simp [key,Yf]
  exact eq_comm
 unfold atP
 by_cases h:y=3
 ·subst h;simp [h2]
 simp [h2,h]
theorem cf_t3 (l:List (Int × Int)) (h:∀ p ∈ l,p.2=3):(cf l 3 0).code=0:=by
 show (Xg sc (st l) (l.map fun p=>rT p.1 p.2) [⟨[98],[117]⟩]).code=0
 have:Vi 12 (Fg sc (st l) ⟨[98],[117]⟩) (l.map fun p=>rT p.1 p.2)=Ft.zero:=Jf (fun x hx=>by
  obtain ⟨p,hp,rfl⟩:=List.mem_map.1 hx
  rw [refT,h p hp];rfl)
 unfold Xg
 rw [this]
 rfl
theorem cf_t3d (a b y:Int) (hy:y≠3):(cf [(a,3),(b,y)] 3 0).code=12:=by
 show (Xg sc (st [(a,3),(b,y)]) [rT a 3,rT b y] [⟨[98],[117]⟩]).code=12
 have:(Vi 12 (Fg sc (st [(a,3),(b,y)]) ⟨[98],[117]⟩) [rT a 3,rT b y]).code=12:=by
  unfold Vi
  simp [List.findIdx?_cons,refT,hy]
 unfold Xg
 rw [this,if_neg Cc]
 exact this
theorem Sh (x y:Int):A6 (rT x y)=decide (x<y):=by
 show decide (Yv (Yf x) (Yf y)<0)=_
 rw [decide_eq_decide]
 simp [Yv,Yf]
 exact Ln
theorem cf_t4 (l:List (Int × Int)) (h:∀ p ∈ l,p.1<p.2):(cf l 4 0).code=0:=by
 show (Vi 13 A6 (l.map fun p=>rT p.1 p.2)).code=0
 rw [Jf (fun x hx=>by
  obtain ⟨p,hp,rfl⟩:=List.mem_map.1 hx
  rw [Sh];exact decide_eq_true (h p hp))]
 rfl
theorem cf_t4d (a b x y:Int) (h1:a<x) (h2:¬ b<y):(cf [(a,x),(b,y)] 4 0).code=13:=by
 show (Vi 13 A6 [rT a x,rT b y]).code=13
 unfold Vi
 simp [List.findIdx?_cons,Sh,h1,h2]
theorem st_norm (l:List (Int × Int)) (h:Ku (l.map fun p=>rT p.1 p.2)=true):F6 sc (st l)=true:=by
 show (Ku (l.map fun p=>rT p.1 p.2)&&decide (([116]:Bs)=[116])&&((Ku [rU 3]&&decide (([117]:Bs)=[117]))&&true))=true
 rw [h];rfl
theorem inc1 (a b:Int):Ku ([(a,b)].map fun p=>rT p.1 p.2)=true:=rfl
theorem cmp_rT (a b c d:Int):Yv (rT a b) (rT c d)=thn (ord a c) (thn (ord b d) 0):=by
 simp [rT,Vw,Yf,Yv,Vq,Jg,Yc,U9,thn]
theorem inc2 (a b c d:Int) (h:a<c\/a=c/\b<d):Ku ([(a,b),(c,d)].map fun p=>rT p.1 p.2)=true:=by
 show (decide (Yv (rT a b) (rT c d)<0)&&true)=true
 rw [Bool.and_true,decide_eq_true_eq,cmp_rT]
 rcases h with h | ⟨rfl,h⟩
 ·have:ord a c=-1:=by unfold ord;rw [if_pos h]
  rw [this];show (-1:Int)<0;omega
 rw [U9,Uc]
 have:ord b d=-1:=by unfold ord;rw [if_pos h]
 rw [this];decide
theorem code0 {f:Ft} (h:Um sc.tables.length (cf [(1,3)]) (fun i=>((sc.tables[i]?).getD Tbl.zero).name) f):f.code=0:=by
 rw [h.none (fun c i hc hi=>?_)]
 ·rfl
 have A:i<2:=hi
 match i,A with
 | 1,_=>exact cf_u _ c hc
 | 0,_=>
  match c,hc with
  | 0,_=>exact Sn _ Cc
  | 1,_=>exact Tk _
  | 2,_=>exact cf_t2 _ Cc
  | 3,_=>exact cf_t3 _ Cc
  | 4,_=>exact cf_t4 _ Cc
theorem code1 {f:Ft} (h:Um sc.tables.length (cf [(1,3),(1,4)]) (fun i=>((sc.tables[i]?).getD Tbl.zero).name) f):f.code=11:=by
 have h2:=cf_t2d 1 3 4
 rw [(h.at 2 0 Cc Cc (by rw [h2];decide) (fun c i hi hb=>?_)).1,h2]
 have A:i<2:=hi
 match i,A with
 | 1,_=>exact cf_u _ c C7
 | 0,_=>
  match c,hb with
  | 0,_=>exact Sn _ Cc
  | 1,_=>exact Tk _
  | c+2,hb=>omega
theorem code2 {f:Ft} (h:Um sc.tables.length (cf [(1,3),(2,4)]) (fun i=>((sc.tables[i]?).getD Tbl.zero).name) f):f.code=12:=by
 have h2:=cf_t3d 1 2 4 Cc
 rw [(h.at 3 0 Cc Cc (by rw [h2];decide) (fun c i hi hb=>?_)).1,h2]
 have A:i<2:=hi
 match i,A with
 | 1,_=>exact cf_u _ c C7
 | 0,_=>
  match c,hb with
  | 0,_=>exact Sn _ Cc
  | 1,_=>exact Tk _
  | 2,_=>exact cf_t2 _ Cc
  | c+3,hb=>omega
theorem code3 {f:Ft} (h:Um sc.tables.length (cf [(1,3),(5,3)]) (fun i=>((sc.tables[i]?).getD Tbl.zero).name) f):f.code=13:=by
 have h2:=cf_t4d 1 5 3 3 Cc Cc
 rw [(h.at 4 0 Cc Cc (by rw [h2];decide) (fun c i hi hb=>?_)).1,h2]
 have A:i<2:=hi
 match i,A with
 | 1,_=>exact cf_u _ c C7
 | 0,_=>
  match c,hb with
  | 0,_=>exact Sn _ Cc
  | 1,_=>exact Tk _
  | 2,_=>exact cf_t2 _ Cc
  | 3,_=>exact cf_t3 _ Cc
  | c+4,hb=>omega
end Law
end Go.Proofs.YtcljcblceodciaaGreatDoor
