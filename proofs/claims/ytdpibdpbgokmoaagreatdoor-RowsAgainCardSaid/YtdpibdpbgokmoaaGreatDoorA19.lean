import Derived.Test.YtdpibdpbgokmoaaGreatDoorA18
set_option maxRecDepth 100000
set_option maxHeartbeats 400000000
namespace Go.Proofs.YtdpibdpbgokmoaaGreatDoor
open Go.RowKit Go.Shelf Go.Lib Tryz
theorem P9 {A B:Type} (p:A->B->Bool) {a:List A} {b:List B} {k:Nat} {x:A} {y:B} (hx:a[k]?=some x) (hy:b[k]?=some y):Iu p (a.drop k) (b.drop k)=(p x y&&Iu p (a.drop (k+1)) (b.drop (k+1))):=by
 obtain ⟨hk,rfl⟩:=Qj hx
 obtain ⟨D,rfl⟩:=Qj hy
 rw [Qp hk,Qp D];rfl
theorem N8 (S S':Nat->Prop) (av bv:Value) (a b:List Val) (w:World) (ha:Sl Zc S w av a) (hb:Sl Zc S' w bv b):
  Calls prog 41 #[av,bv] w λe w'=>e=.returned (.bool (Iu eqv a b))/\Gr w w':=by
 obtain ⟨pa,ca,rfl,aC⟩:=ha.len
 obtain ⟨pb,cb,rfl,aD⟩:=hb.len
 have HA:=Qq ha;have HB:=Qq hb
 have mixed:prog.follows .mixedOrders=true:=Ir
 obtain ⟨r,hr⟩:=eX (Iu eqv a b)
 rw [hr]
 have HR:=Qq hr
 clear ha hb hr
 by_cases hlen:a.length=b.length
 ·obtain ⟨n,hn⟩:=eX (a.length)
  have hm:b.length=n:=Ia
  have HN:=Qq hn;have HM:=Qq hm
  rw [hn] at HA aC |-
  rw [hm] at HB aD |-
  have J:((n:Int) != (n:Int))=false:=Ib
  clear hn hm hlen
  go_enter func41,ntmps41
  go_wp2_with fail
  go_loopw [5] (λi wr=>∃ k:Nat,k<=n/\i=.int .i64 k/\Aside (Iu eqv (a.drop k) (b.drop k)=r)/\Aside (Gr w wr)) (λi _=>n - (intOf i).toNat)
  case atStart=>exact ⟨0,Q8 _,rfl,HR.o,Gr.refl _⟩
  obtain ⟨k,hk,rfl,A,hG⟩:=hrel
  have V:=Qq (show Gr w wr from hG);have HE:=Qq (show Iu eqv (a.drop k) (b.drop k)=r from A)
  clear hG A
  by_cases hlt:k<n
  ·have aL:(0:Int)<=(k:Int):=Ia
   have aM:(k:Int)<(n:Int):=Ia
   obtain ⟨x,hx⟩:∃ x,a[k]?=some x:=⟨_,Qx (by rw [HN.o];exact hlt)⟩
   obtain ⟨y,hy⟩:∃ y,b[k]?=some y:=⟨_,Qx (by rw [HM.o];exact hlt)⟩
   obtain ⟨ga,oa,p3,k3,p4,k4,rfl,D,aA,d0,d1,d2,d3,d4⟩:=(HA.o.below V.o.bl).val hx
   obtain ⟨gb,ob,q3,l3,q4,l4,rfl,G,aB,e0,e1,e2,e3,e4⟩:=(HB.o.below V.o.bl).val hy
   have O:=Jt aA aB
   have D0:=Zt D d0;have D1:=Zt D d1;have D2:=Zt D d2;have D3:=Zt D d3;have D4:=Zt D d4
   have E0:=Zt G e0;have E1:=Zt G e1;have E2:=Zt G e2;have E3:=Zt G e3;have E4:=Zt G e4
   have N:=Ol x y
   have T:=P9 eqv hx hy
   rw [HE.o] at T
   generalize Zu x y=c at O N
   have U:=Qq N;have Y:=Qq T
   clear hx hy aA aB d0 d1 d2 d3 d4 e0 e1 e2 e3 e4 N T
   by_cases J:(c==0)=true
   ·have aG:(c != 0)=false:=by simpa using J
    have M:Iu eqv (a.drop (k+1)) (b.drop (k+1))=r:=by rw [Y.o,<- U.o,J,Bool.true_and]
    have Z:=Qq M
    clear M J
    go_wp2_with fail
    go_quiet_grown (first | (go_at_call 23;refine Calls.grown_of (O _ _)))
    go_wp2_with fail
    go_roundw
    case measure=>simp [intOf];omega
    case rel=>exact ⟨k+1,Ia,by go_num,Z.o,V.o.n (Yh _ _ _)⟩
   have aG:(c != 0)=true:=by simpa using J
   have I:r=false:=by rw [Y.o,<- U.o,Qt _ |>.mp J,Bool.false_and]
   subst I
   clear J
   go_wp2_with fail
   go_quiet_grown (first | (go_at_call 23;refine Calls.grown_of (O _ _)))
   go_wp2_with fail
   go_ret
   exact ⟨rfl,V.o.n (Yh _ _ _)⟩
  have aK:¬ (k:Int)<(n:Int):=Ia
  have:k=n:=Ia
  subst this
  have I:r=true:=by
   rw [<- HE.o,Qu (by rw [HN.o];exact Q9 _),Qu (by rw [HM.o];exact Q9 _)];rfl
  subst I
  go_wp2_with fail
  go_ret
  exact ⟨rfl,V.o⟩
 have I:r=false:=by rw [<- HR.o];exact Ky eqv a b hlen
 subst I
 have J:((a.length:Int) != (b.length:Int))=true:=by rw [bne_iff_ne];omega
 clear hlen
 go_enter func41,ntmps41
 go_wp2_with fail
 go_ret
 exact ⟨rfl,Gr.refl _⟩
theorem Sz {s:Sc} {k:Nat} {x:Tbl} (hx:s.tables[k]?=some x):(Xe s).take (k+1)=(Xe s).take k++[⟨x.name,[]⟩]:=by
 unfold Xe
 rw [<- List.map_take,<- List.map_take]
 obtain ⟨hk,rfl⟩:=Qj hx
 rw [Zz hk,List.map_append];rfl
theorem Sb (S:Nat->Prop) (s:Sc) (cs:List Value) (w:World) (hs:Ve S w cs s) (hl0:s.tables.length<=1000):
  Calls prog 19 #[cs] w (BL (λ_=>False) w (Xe s)):=by
 obtain ⟨uv,tv,rfl,hu,aH⟩:=hs
 have ht:Sl Zn (λb=>b<w) w tv s.tables:=aH.mono (λb hb _=>hb)
 obtain ⟨up,uc,rfl,_⟩:=hu.len
 obtain ⟨tp,tc,rfl,_⟩:=ht.len
 have HT:=Qq ht
 clear hu ht aH
 obtain ⟨i0,j1,j2,j3,j4⟩:=Y8 (P:=prog) (t:=70) (z:=.agg #[Ig,Ie]) (n:=2) (b:=40) Ir
 obtain ⟨HJ,aK,aL,aM⟩:=It j1 j2 j3 j4
 clear j1 j2 j3 j4
 unfold BL
 have I:(Xe s).length=s.tables.length:=by unfold Xe;simp
 rw [I]
 obtain ⟨n,hn⟩:=eX (s.tables.length)
 rw [hn] at HT hl0 |-
 have HN:=Qq hn;have M:=Qq I
 clear hn I
 go_enter func19,ntmps19
 go_wp2_with fail
 generalize G:w.alloc _=W1
 have aC:=Iq G (Zg _ _)
 have aA:=Ik (b:=w.heap.size) G (Qw _ _)
 have aI:=Qq aC;have N:=Qq aA
 clear G aC aA
 go_loopw [3,4] (λo i wr=>∃ (k:Nat) (p:Option Addr) (cap:Nat),k<=n/\i=.int .i64 k/\o=.slice p k cap/\Below (w+1) W1 wr/\(∃ css,Own Xz 70 (λ_=>False) (w+1) wr (.slice p k cap) ((Xe s).take k) css)) (λ_ i _=>n - (intOf i).toNat)
 case atStart=>exact ⟨0,none,0,Q8 _,rfl,rfl,Qz _ _,[],Own.nil _ _ _ _ _⟩
 obtain ⟨k,p,cap,bF,rfl,rfl,A,css,hO⟩:=hrel
 have bH:=Z8 N.o
 have aB:=kE A Ia N.o
 have aD:Below w w wr:=aI.o.trans (A.mono Ia)
 have bG:=A.size
 obtain ⟨aJ,J,HO⟩:=Im A aD hO
 obtain ⟨c0,c1⟩:=AF aB
 clear aB A aD hO
 have aG:((Xe s).take k).length=k:=by rw [Qm,M.o,HN.o];omega
 have aO:=Qq aG
 clear aG
 by_cases hlt:k<n
 ·have bD:(0:Int)<=(k:Int):=Ia
  have bE:(k:Int)<(n:Int):=Ia
  obtain ⟨x,hx⟩:∃ x,s.tables[k]?=some x:=⟨_,Qx (by rw [HN.o];exact hlt)⟩
  obtain ⟨b,bN,cs,rfl,bC,_,_,hR,hc⟩:=(HT.o.below J.o).elem hx
  obtain ⟨bB,bA,bJ,bI,bS,bR,k9,bT,n9,bU,bO,bK,aX,bP,bL,aY,bQ,bM,aZ,a9,z9,aE,aW,_⟩:=Yq hR
  simp only [AL] at aE
  subst aE
  have d0:=hc 0 _ rfl
  rw [show Zn.k=13 from rfl,Nat.add_zero] at d0
  have Z:Xz.R (But (λ_=>False) (.slice p k cap)) wr [x.name,Ie] ⟨x.name,[]⟩:=⟨_,rfl,aW,Sl.nil _ _ _,⟨_,_,rfl,Q9 _⟩⟩
  have aR:=Qq Z
  have D:=Sz hx
  have aS:=Qq D
  clear hx hc hR Z D
  go_wp2_with (at_builtin;refine Yo (r:=Xz) Ih rfl (.tmp 12) (.tmp 20) _ rfl 70 i0 (.agg #[Ig,Ie]) 40 underlying28 HJ.o aK.o aL.o aM.o rfl Ia (λ_=>False) (w+1) wr (.slice p k cap) ((Xe s).take k) css [x.name,Ie] ⟨x.name,[]⟩ rfl HO.o rfl aR.o (by simp [Value.oneCell']) k aO.o Ia Ia ?_;intro p7 O T w7 Y U;have aQ:=Qq Y;have aN:=Qq U;clear Y U)
  go_roundw
  case measure=>simp [intOf];omega
  case rel=>
   refine ⟨k+1,p7,O,Ia,by go_num,rfl,aJ.o.trans aN.o.below,T,?_⟩
   rw [aS.o];exact aQ.o
 have aF:k=n:=Ia
 subst aF
 go_wp2_with fail
 go_ret
 have D:(Xe s).take k=Xe s:=Zj (by rw [M.o,HN.o];exact Q9 _)
 have V:=HO.o
 rw [D] at V
 exact ⟨p,cap,css,rfl,V.weak Ia (λb _ h=>h.elim),J.o⟩
theorem Me (S0 S1:Nat->Prop) (s:Sc) (cs:List Value) (lv:Value) (l:List Rel) (w:World) (hs:Ve S0 w cs s) (hl0:Sl Yk S1 w lv l) (hlen:l.length=s.tables.length):
  Calls prog 38 #[cs,lv] w λe w'=>e=.returned (.bool (U3 s l))/\Below w w w':=by
 obtain ⟨uv,tv,rfl,hu,ht⟩:=hs
 obtain ⟨up,uc,rfl,_⟩:=hu.len
 obtain ⟨tp,tc,rfl,cD⟩:=ht.len
 obtain ⟨lp,lc,rfl,_⟩:=hl0.len
 have HT:=Qq ht;have HL:=Qq hl0
 have mixed:prog.follows .mixedOrders=true:=Ir
 obtain ⟨n,hn⟩:=eX (s.tables.length)
 rw [hn] at HT cD |-
 have hm:l.length=n:=Ia
 rw [hm] at HL |-
 have HN:=Qq hn;have HM:=Qq hm
 clear hu ht hl0 hn hm hlen
 obtain ⟨B9,aB⟩:=eX (U3 s l)
 rw [aB]
 have bW:=Qq aB
 clear aB
 have cG:((n:Int) != (n:Int))=false:=Ib
 go_enter func38,ntmps38
 go_wp2_with fail
 clear cG
 generalize aC:w.alloc _=W1
 have aY:=Iq aC (Zg _ _)
 have aX:=Ik (b:=w.heap.size) aC (Qw _ _)
 have bU:=Qq aY;have cA:=Qq aX
 clear aC aY aX
 go_loopw [5,6] (λi _ wr=>∃ k:Nat,k<=n/\i=.int .i64 k/\Aside (B9=Iu (λ(t:Tbl) (r:Rel)=>Ua r.rows&&decide (t.name=r.table)) (s.tables.drop k) (l.drop k))/\Aside (Below W1 W1 wr)) (λi _ _=>n - (intOf i).toNat)
 case atStart=>exact ⟨0,Q8 _,rfl,bW.o.symm,Qz _ _⟩
 obtain ⟨k,hk,rfl,bD,aW⟩:=hrel
 have aS:=Qq (show B9=Iu (λ(t:Tbl) (r:Rel)=>Ua r.rows&&decide (t.name=r.table)) (s.tables.drop k) (l.drop k) from bD)
 clear bD
 have V:=Qq (show Below W1 W1 wr from aW)
 have I:=Qq (bU.o.n V.o)
 have aD:=kB V.o cA.o
 have cV:=Z8 aD
 obtain ⟨c0,c1⟩:=AF aD
 clear aW aD c0
 by_cases hlt:k<n
 ·have cW:(0:Int)<=(k:Int):=Ia
  have cX:(k:Int)<(n:Int):=Ia
  obtain ⟨r,hr⟩:∃ r,l[k]?=some r:=⟨_,Qx (by rw [HM.o];exact hlt)⟩
  obtain ⟨t,ht⟩:∃ t,s.tables[k]?=some t:=⟨_,Qx (by rw [HN.o];exact hlt)⟩
  obtain ⟨rb,cL,dM,rfl,cI,_,_,⟨rv,rfl,_,O⟩,aH⟩:=(HL.o.below I.o).elem hr
  obtain ⟨tb,cN,cM,rfl,dC,_,_,hR,bJ⟩:=(HT.o.below I.o).elem ht
  obtain ⟨cU,cT,dE,dD,dN,dL,k9,dO,n9,dP,dI,dF,cQ,dJ,dG,cR,dK,dH,cS,a9,z9,bA,_⟩:=Yq hR
  simp only [AL] at bA
  subst bA
  have d0:=bJ 0 _ rfl
  have e0:=aH 0 _ rfl;have e1:=aH 1 _ rfl
  rw [show Zn.k=13 from rfl,Nat.add_zero] at d0
  rw [show Yk.k=2 from rfl] at e0 e1
  rw [Nat.add_zero] at e0
  unfold sv at e0
  obtain ⟨q,m,qc,bI,bC⟩:∃ q m qc,rv=.slice q m qc/\r.rows.length=m:=by obtain ⟨q,qc,h,_⟩:=O.len;exact ⟨q,_,qc,h,rfl⟩
  subst bI
  have bY:=Qq O;have Y:=Qq bC
  have cK:m<=1000000:=by obtain ⟨_,_,_,h⟩:=O.len;omega
  have aA:Hid (B9=((Ua r.rows&&decide (t.name=r.table))&&Iu (λ(t:Tbl) (r:Rel)=>Ua r.rows&&decide (t.name=r.table)) (s.tables.drop (k+1)) (l.drop (k+1)))):=Qq (aS.o.trans (P9 (λ(t:Tbl) (r:Rel)=>Ua r.rows&&decide (t.name=r.table)) ht hr))
  clear hr ht hR bJ aH O bC
  by_cases M:r.table=t.name
  ·have bE:(r.table==t.name)=true:=by rw [M];simp
   have bF:(r.table != t.name)=false:=by rw [M];simp
   have bZ:=Qq M
   clear M
   go_wp2_with fail
   go_quiet (fail)
   go_wp2_with fail
   obtain ⟨wo,aJ⟩:=eX (wr.drewN nq)
   have J:Below wr wr wo:=by rw [<- aJ];exact Yz _ _
   rw [aJ]
   have aP:=Qq J
   have E1:=Qq (kD J cI e1)
   have aT:=Qq (bY.o.below J)
   have bH:rb<wo.heap.size:=Ix J.size
   clear aJ J e0 e1 d0 c1 bE bF
   go_loopw [6] (λi wi=>∃ j:Nat,j<=m/\i=.int .i64 ((j:Int)+1)/\Aside (∀ (D:Nat) (x y:Val),D<j->r.rows[D]?=some x->r.rows[D+1]?=some y->Zu x y<0)/\Aside (Below wo wo wi)) (λi _=>m - (intOf i).toNat)
   case atStart=>exact ⟨0,Q8 _,Ib,(by intro D _ _ h9;omega),Qz _ _⟩
   obtain ⟨j,hj,rfl,U,aV⟩:=hrel
   have T:=Qq (show ∀ (D:Nat) (x y:Val),D<j->r.rows[D]?=some x->r.rows[D+1]?=some y->Zu x y<0 from U)
   clear U
   have G:=Qq (show Below wo wo wr from aV)
   have e1:=kD G.o bH E1.o
   clear aV
   by_cases hlt2:j+1<m
   ·obtain ⟨x,hx⟩:∃ x,r.rows[j]?=some x:=⟨_,Qx (by rw [Y.o];omega)⟩
    obtain ⟨y,hy⟩:∃ y,r.rows[j+1]?=some y:=⟨_,Qx (by rw [Y.o];omega)⟩
    obtain ⟨xb,bP,p3,k3,p4,k4,rfl,A,bK,d0,d1,d2,d3,d4⟩:=(aT.o.below G.o).val hx
    obtain ⟨yb,bQ,q3,l3,q4,l4,M,cJ,bL,f0,f1,f2,f3,f4⟩:=(aT.o.below G.o).val hy
    obtain ⟨rfl,rfl,-⟩:xb=yb/\bP=bQ/\True:=by simpa using M
    have aE:=Jt bK bL
    have bG:rb<wr.heap.size:=Qv _ _ e1
    have D0:=Zt A d0;have D1:=Zt A d1;have D2:=Zt A d2;have D3:=Zt A d3;have D4:=Zt A d4
    have F0:=Zt A f0;have F1:=Zt A f1;have F2:=Zt A f2;have F3:=Zt A f3;have F4:=Zt A f4
    have E2:=Zt bG e1
    have aF:IntKind.i64.wrap (j:Int)=(j:Int):=by rw [IntKind.wrap_i64];omega
    have cY:(j:Int)<(m:Int):=Ia
    have cZ:(0:Int)<(j:Int)+1:=Ia
    have dA:(0:Int)<=(j:Int)+1:=Ia
    have cC:(j:Int)+1<(m:Int):=Ia
    have dB:(0:Int)<=(j:Int):=Ia
    have aG:((j:Int)+1).toNat=j+1:=Ia
    generalize aZ:Zu x y=c at aE
    have aQ:=Qq aZ;have N:=Qq (Qe hx hy)
    clear aZ
    have cO:=Qq aF;have cP:=Qq aG
    clear hx hy M bK bL cJ d0 d1 d2 d3 d4 f0 f1 f2 f3 f4
    by_cases hneg:c<0
    ·have aR:Hid (∀ (D:Nat) (x y:Val),D<j+1->r.rows[D]?=some x->r.rows[D+1]?=some y->Zu x y<0):=Qq (by
      intro D x' y' cB bN bO
      rcases Nat.lt_succ_iff_lt_or_eq.1 cB with h9 | rfl
      ·exact T.o D x' y' h9 bN bO
      cases bN.symm.trans N.o.1;cases bO.symm.trans N.o.2
      rw [aQ.o];exact hneg)
     have hq:decide (0<=c)=false:=by simpa using hneg
     go_wp2_with fail
     go_quiet_grown (first | (go_at_call 23;refine Calls.grown_of (aE _ _)))
     clear aF aG
     go_wp2_with fail
     go_roundw
     case measure=>simp [intOf];omega
     case rel=>exact ⟨j+1,Ia,by go_num,aR.o,G.o.n (Yh _ _ _).bl⟩
    have Z:Hid (B9=false):=Qq (by
     rw [aA.o,P8 N.o.1 N.o.2 (by rw [aQ.o];exact hneg)];rfl)
    have hq:decide (0<=c)=true:=by simp;omega
    go_wp2_with fail
    go_quiet_grown (first | (go_at_call 23;refine Calls.grown_of (aE _ _)))
    clear aF aG
    go_wp2_with fail
    go_ret
    exact ⟨by rw [Z.o];rfl,((I.o.n aP.o).n G.o).n (Yh _ _ _).bl⟩
   have bX:Hid (B9=Iu (λ(t:Tbl) (r:Rel)=>Ua r.rows&&decide (t.name=r.table)) (s.tables.drop (k+1)) (l.drop (k+1))):=Qq (by
    have h9:Ua r.rows=true:=(Kr _).2 λD x y hx hy=>T.o D x y (by
     have:=(Qj hy).1
     have:=Y.o
     omega) hx hy
    rw [aA.o,h9,decide_eq_true bZ.o.symm];rfl)
   have cC:¬ (j:Int)+1<(m:Int):=Ia
   go_wp2_with fail
   go_roundw
   case measure=>simp [intOf];omega
   case rel=>exact ⟨k+1,Ia,by go_num,bX.o,(V.o.n aP.o).n G.o⟩
  have bE:(r.table==t.name)=false:=by rw [<- Qt,beq_iff_eq];exact M
  have bF:(r.table != t.name)=true:=by rw [bne_iff_ne];exact M
  have Z:Hid (B9=false):=Qq (by
   rw [aA.o,decide_eq_false (λh9=>M h9.symm),Bool.and_false,Bool.false_and])
  clear M
  go_wp2_with fail
  go_quiet (fail)
  go_wp2_with fail
  go_ret
  exact ⟨by rw [Z.o];rfl,I.o.n (Yz _ _)⟩
 have bB:k=n:=Ia
 subst bB
 go_wp2_with fail
 go_ret
 refine ⟨?_,I.o⟩
 rw [aS.o,<- HN.o,List.drop_length,List.drop_of_length_le (by rw [HM.o,HN.o];exact Q9 _)];rfl
inductive Y3:Val->Prop
 | mk (k n:Int) (s:Bs) (names:List Bs) (kids:List Val) (hb:k=2->n=0\/n=1) (hk:∀ x ∈ kids,Y3 x):Y3 (.mk k n s names kids)
theorem Y3.kids {v:Val} (h:Y3 v):∀ x ∈ v.kids,Y3 x:=by cases h;assumption
theorem Y3.bool {v:Val} (h:Y3 v) (hk:v.kind=2):v.n=0\/v.n=1:=by cases h with | mk k n s names kids hb _=>exact hb hk
theorem Y3.zero:Y3 Val.zero:=.mk 0 0 [] [] [] (λh=>by cases h) (λx h=>by simp at h)
theorem Y7.boolOk {v:Val} (h:Y7 v):Y3 v:=by
 induction h with
 | int n=>exact .mk _ _ _ _ _ (λh=>by cases h) (λx h=>by simp at h)
 | text s=>exact .mk _ _ _ _ _ (λh=>by cases h) (λx h=>by simp at h)
 | bool n hn=>exact .mk _ _ _ _ _ (λ_=>hn) (λx h=>by simp at h)
 | make s kids _ _ _ ih=>exact .mk _ _ _ _ _ (λh=>by cases h) ih
 | record names kids _ _ _ _ ih=>exact .mk _ _ _ _ _ (λh=>by cases h) ih
 | list kids _ ih=>exact .mk _ _ _ _ _ (λh=>by cases h) ih
theorem Z9.head {S:Nat->Prop} {w:World} {k n:Int} {s:ByteArray} {p3:Option Addr} {n3 k3:Nat} {p4:Option Addr} {n4 k4:Nat} {v:Val} (h:Z9 S w [k,n,.string s,.slice p3 n3 k3,.slice p4 n4 k4] v):v.kind=k/\v.n=n/\v.kids.length=n4:=by
 obtain ⟨a,b,c,d,e,_⟩:=Z9.cells h
 simp only [Il,List.cons.injEq,Value.int.injEq,Qr,true_and,and_true] at e
 obtain ⟨h1,h2,_,_,h5⟩:=e
 exact ⟨h1.symm,h2.symm,h5.2.1.symm⟩
def EvS (S:Nat->Prop) (w:World) (cs:List Value) (r:Option Val) (b:Bool):Prop:=(b=true->∃ v,Z9 S w cs v/\Y3 v/\r=some v)/\(b=false->r=none)
theorem EvS.yes {S:Nat->Prop} {w:World} {cs:List Value} {r:Option Val} {v:Val} (h:Z9 S w cs v) (hb:Y3 v) (hr:r=some v):EvS S w cs r true:=⟨λ_=>⟨v,h,hb,hr⟩,λh=>by cases h⟩
theorem EvS.no {S:Nat->Prop} {w:World} {cs:List Value} {r:Option Val} (hr:r=none):EvS S w cs r false:=⟨(λh=>by cases h),λ_=>hr⟩
theorem EvS.map {S S':Nat->Prop} {w w':World} {cs:List Value} {r:Option Val} {b:Bool} (h:EvS S w cs r b) (hm:∀ v,Z9 S w cs v->Z9 S' w' cs v):EvS S' w' cs r b:=⟨λhb=>by
 obtain ⟨v,h1,h2,h3⟩:=h.1 hb
 exact ⟨v,hm v h1,h2,h3⟩,h.2⟩
def X7 (S:Nat->Prop) (w:World) (r:Option Val) (e:Ending) (w':World):Prop:=∃ (k n:Int) (s:ByteArray) (p3:Option Addr) (n3 k3:Nat) (p4:Option Addr) (n4 k4:Nat) (b:Bool),
 e=.returned (.tuple #[.agg #[k,n,.string s,.slice p3 n3 k3,.slice p4 n4 k4],.bool b])/\EvS (λc=>S c\/w<=c) w' [k,n,.string s,.slice p3 n3 k3,.slice p4 n4 k4] r b/\Below w w w'
theorem X7.weak {S S':Nat->Prop} {w w1 w2:World} {r:Option Val} {e:Ending} (h:X7 S' w1 r e w2) (hb:Below w w w1) (hS:∀ c,S' c->S c\/w.heap.size<=c):X7 S w r e w2:=by
 obtain ⟨k,n,s,p3,n3,k3,p4,n4,k4,b,he,hv,D⟩:=h
 refine ⟨k,n,s,p3,n3,k3,p4,n4,k4,b,he,hv.map (λv h1=>h1.move (.refl _ _) (λc _ A=>?_)),hb.n D⟩
 rcases A with A | A
 ·exact hS c A
 exact .inr (Ix hb.size)
theorem X7.of_eq {S:Nat->Prop} {w w':World} {r r':Option Val} {e:Ending} (hr:r=r') (h:X7 S w r' e w'):X7 S w r e w':=hr ▸ h
theorem S9 (b:Bool) (w:World):Calls prog 144 #[.bool b] w λe w'=>e=.returned (.tuple #[.agg #[.int .i64 2,.int .i64 (if b then 1 else 0),Ig,Ie,Ie],.bool true])/\Below w w w':=by
 cases b with
 | true=>
  go_enter func144,ntmps144
  go_wp2_with fail
  exact Q7 (v:=.tuple #[.agg #[.int .i64 2,.int .i64 1,Ig,Ie,Ie],.bool true]) (by simp [results,results144,go_sem]) rfl ⟨rfl,Zg _ _⟩
 | false=>
  go_enter func144,ntmps144
  go_wp2_with fail
  exact Q7 (v:=.tuple #[.agg #[.int .i64 2,Ic,Ig,Ie,Ie],.bool true]) (by simp [results,results144,go_sem]) rfl ⟨rfl,Zg _ _⟩
theorem Ee (n:Int) (w:World):Calls prog 143 #[n] w λe w'=>e=.returned (.tuple #[.agg #[Ic,n,Ig,Ie,Ie],.bool true])/\Below w w w':=by
 go_enter func143,ntmps143
 go_wp2_with fail
 exact Q7 (v:=.tuple #[.agg #[Ic,n,Ig,Ie,Ie],.bool true]) (by simp [results,results143,go_sem]) rfl ⟨rfl,Zg _ _⟩
theorem Sr (S:Nat->Prop) (w:World) (n:Int):Z9 S w [.int .i64 2,n,Ig,Ie,Ie] (.mk 2 n [] [] []):=Yb (s:=[]) Ib (Sl.nil _ _ _) (Sl.nil _ _ _)
theorem Hs (n:Int):Y3 (.mk 0 n [] [] []):=.mk _ _ _ _ _ (λh=>by cases h) (λx h=>by simp at h)
theorem Sl.ex {S:Nat->Prop} {w:World} {p:Option Addr} {n cap:Nat} {xs:List Ex} (h:Sl Vz S w (.slice p n cap) xs) {i:Nat} {x:Ex} (hx:xs[i]?=some x):
  ∃ b off ek es1 en es2 ep1 en1 ec1 ep2 en2 ec2 ep3 en3 ec3 ea ez,p=some ⟨b,off,none⟩/\b<w.heap.size/\Yx S w (AW ek es1 en es2 ep1 en1 ec1 ep2 en2 ec2 ep3 en3 ec3 ea ez) x/\Ii w b (off+i*9) (.int .i64 ek)/\Ii w b (off+i*9+1) (.string es1)/\Ii w b (off+i*9+2) (.int .i64 en)/\Ii w b (off+i*9+3) (.string es2)/\Ii w b (off+i*9+4) (.slice ep1 en1 ec1)/\Ii w b (off+i*9+5) (.slice ep2 en2 ec2)/\Ii w b (off+i*9+6) (.slice ep3 en3 ec3)/\Ii w b (off+i*9+7) (.int .i64 ea)/\Ii w b (off+i*9+8) (.int .i64 ez):=by
 obtain ⟨b,off,cs,rfl,hb,_,_,hr,A⟩:=h.elem hx
 obtain ⟨ek,es1,en,es2,ep1,en1,ec1,ep2,en2,ec2,ep3,en3,ec3,ea,ez,D⟩:=Yx.cells (show Yx S w cs x from hr)
 subst D
 simp only [show Vz.k=9 from rfl] at A
 exact ⟨b,off,ek,es1,en,es2,ep1,en1,ec1,ep2,en2,ec2,ep3,en3,ec3,ea,ez,rfl,hb,hr,A 0 _ rfl,A 1 _ rfl,A 2 _ rfl,A 3 _ rfl,A 4 _ rfl,A 5 _ rfl,A 6 _ rfl,A 7 _ rfl,A 8 _ rfl⟩
def F7 (x:Ex):Prop:=∀ (S:Nat->Prop) (ce:List Value) (w:World),Yx S w ce x->Calls prog 96 #[ce] w λe w'=>e=.returned (.bool (Vw x))/\Below w w w'
theorem Tc (k:Int) (nm:Bs) (n:Int) (s:Bs) (names binds:List Bs) (kids:List Ex) (a z:Int) (ih:∀ x ∈ kids,F7 x):F7 (.mk k nm n s names binds kids a z):=by
 intro S ce w h
 obtain ⟨nv,bv,kv,rfl,_,_,hn,hb,hk⟩:=Yy.1 h
 obtain ⟨p1,c1,rfl,_⟩:=hn.len
 obtain ⟨p2,c2,rfl,_⟩:=hb.len
 obtain ⟨p3,c3,rfl,aJ⟩:=hk.len
 have HK:=Qq hk;have HI:=Qq ih
 clear h hn hb hk ih
 obtain ⟨m,hm⟩:=eX (kids.length)
 rw [hm] at HK aJ |-
 have HM:=Qq hm
 clear hm
 unfold sv
 by_cases hbad:k=4\/k=10\/k=15\/k=16
 ·rcases hbad with rfl | rfl | rfl | rfl
  all_goals
   go_enter func96,ntmps96
   go_wp2_with fail
   go_ret
   exact ⟨rfl,Zg _ _⟩
 have HQ:Hid (Vw (.mk k nm n s names binds kids a z)=Lk kids):=Qq (by
  have e:([4,10,15,16].any λy=>decide (y=k))=false:=by
   simp only [List.any_cons,List.any_nil,Bool.or_false,Bool.or_eq_false_iff,decide_eq_false_iff_not]
   omega
  rw [Vw,e];rfl)
 have q4:(k==4)=false:=by rw [<- Qt,beq_iff_eq];omega
 have aL:(k==10)=false:=by rw [<- Qt,beq_iff_eq];omega
 have aM:(k==15)=false:=by rw [<- Qt,beq_iff_eq];omega
 have aN:(k==16)=false:=by rw [<- Qt,beq_iff_eq];omega
 clear hbad
 go_enter func96,ntmps96
 go_wp2_with fail
 generalize N:w.alloc _=W0
 have aB:=Iq N (Zg _ _)
 have Z:=Ik (b:=w.heap.size) N (Qw _ _)
 have J:=Qq aB;have aF:=Qq Z
 clear N aB Z q4 aL aM aN
 go_loopw [3,4] (λi _ wr=>∃ k:Nat,k<=m/\i=.int .i64 k/\Aside (∀ x ∈ kids.take k,Vw x=true)/\Aside (Below W0 W0 wr)) (λi _ _=>m - (intOf i).toNat)
 case atStart=>exact ⟨0,Q8 _,rfl,(by intro x I;simp at I),Qz _ _⟩
 obtain ⟨j,hj,rfl,aC,Y⟩:=hrel
 have U:=Qq (show ∀ x ∈ kids.take j,Vw x=true from aC)
 clear aC
 have A:=Qq (show Below W0 W0 wr from Y)
 have aA:=kB A.o aF.o
 have c6:=AK aA
 clear Y aA
 by_cases hlt:j<m
 ·have bA:(0:Int)<=(j:Int):=Ia
  have bB:(j:Int)<(m:Int):=Ia
  obtain ⟨x,I⟩:∃ x,kids[j]?=some x:=⟨_,Qx (by rw [HM.o];exact hlt)⟩
  obtain ⟨b,bC,ek,aX,en,aY,aU,aR,aO,aV,aS,aP,aW,aT,aQ,ea,ez,rfl,aZ,aD,d0,d1,d2,d3,d4,d5,d6,d7,d8⟩:=(HK.o.below (J.o.n A.o)).ex I
  obtain ⟨V,G,HX⟩:=Im aD (HI.o x (Qy I)) I
  clear aD I
  obtain ⟨q,hq⟩:=eX (Vw x)
  unfold F7 at G
  rw [hq] at G
  have T:=Qq hq
  clear hq
  cases q with
  | false=>
   go_wp2_with (go_at_call 96;refine (G.o _ _ _ V.o).mono ?_;rintro e w5 ⟨rfl,D⟩;have M:=Qq D;clear D)
   go_ret
   refine ⟨?_,(J.o.n A.o).n M.o⟩
   rw [HQ.o,Fr,List.any_eq_true.2 ⟨x,Qy HX.o,by rw [T.o];rfl⟩];rfl
  | true=>
   go_wp2_with (go_at_call 96;refine (G.o _ _ _ V.o).mono ?_;rintro e w5 ⟨rfl,D⟩;have M:=Qq D;clear D)
   go_roundw
   case measure=>simp [intOf];omega
   case rel=>exact ⟨j+1,Ia,by go_num,(by
    intro y O
    rw [Gn HX.o] at O
    rcases Z4.1 O with O | O
    ·exact U.o y O
    rw [Z5.1 O];exact T.o),A.o.n M.o⟩
 have aG:j=m:=Ia
 subst aG
 go_wp2_with fail
 go_ret
 refine ⟨?_,J.o.n A.o⟩
 have hs:=U.o
 rw [<- HM.o,List.take_length] at hs
 rw [HQ.o,Fr,List.any_eq_false.2 λx I=>by rw [hs x I];simp];rfl
theorem E6:∀ x:Ex,F7 x
 | .mk k nm n s names binds kids a z=>Tc k nm n s names binds kids a z λx _=>E6 x
termination_by x=>SizeOf.sizeOf x
decreasing_by
 have:=List.sizeOf_lt_of_mem ‹_ ∈ kids›
 simp only [Ex.mk.sizeOf_spec]
 omega
theorem Qjp {l:List Tbl} {x:Bs} {k:Nat} {t:Tbl} (ht:l[k]?=some t) (he:t.name=x) (hne:∀ (j:Nat) (y:Tbl),j<k->l[j]?=some y->decide (y.name=x)=false):Yw l x=some t:=by
 obtain ⟨hk,rfl⟩:=Qj ht
 unfold Yw
 rw [List.find?_eq_some_iff_getElem]
 exact ⟨by simpa using he,k,hk,rfl,λj hj=>by simpa using hne j _ hj (Qx Ia)⟩
theorem Se {l:List Tbl} {x:Bs} (hne:∀ (j:Nat) (y:Tbl),l[j]?=some y->decide (y.name=x)=false):Yw l x=none:=by
 unfold Yw
 rw [List.find?_eq_none]
 intro y hy
 obtain ⟨j,hj⟩:=Zk hy
 simpa using hne j y hj
def TabIs (S:Nat->Prop) (w:World) (o:Option Tbl) (e:Ending) (w':World):Prop:=∃ cs',e=.returned (.tuple #[.agg cs'.toArray,.bool o.isSome])/\Zn.R S w' cs' (o.getD Tbl.zero)/\Below w w w'
theorem Hp (S:Nat->Prop) (s:Sc) (cs:List Value) (x0:Bs) (w:World) (hs:Ve S w cs s):
  Calls prog 68 #[cs,sv x0] w (TabIs S w (Yw s.tables x0)):=by
 obtain ⟨uv,tv,rfl,hu,aZ⟩:=hs
 have ht:=aZ.up
 obtain ⟨up,uc,rfl,_⟩:=hu.len
 obtain ⟨tp,tc,rfl,bS⟩:=ht.len
 have HT:=Qq ht
 clear hu ht aZ
 obtain ⟨n,hn⟩:=eX (s.tables.length)
 rw [hn] at HT bS |-
 have HN:=Qq hn
 clear hn
 obtain ⟨r,hr⟩:=eX (Yw s.tables x0)
 rw [hr]
 have HR:=Qq hr
 clear hr
 unfold sv
 go_enter func68,ntmps68
 go_wp2_with fail
 generalize aC:(w.alloc _).alloc _=W1
 have aX:=Iq aC (Zs _ _ _)
 have aW:=Ik (b:=w.heap.size) aC (Q5 _ _ _)
 have aB:=Ik (b:=w.heap.size+1) aC (Q6 _ _ _)
 have aQ:=Qq aX;have aU:=Qq aB
 obtain ⟨c0,c1⟩:=AF aW
 obtain ⟨r0,r1,r2,r3,r4,r5,r6,r7,r8,r9,cG,cH,cI⟩:=AP aB
 obtain ⟨f0,f1,f2,f3,f4,f5,f6,f7,f8,f9,bY,bZ,cA⟩:=BJ aB
 clear aC aX aW aB
 go_loop [6] (λi=>∃ k:Nat,k<=n/\i=.int .i64 k/\Aside (∀ (j:Nat) (y:Tbl),j<k->s.tables[j]?=some y->decide (y.name=x0)=false)) (λi=>n - (intOf i).toNat)
 case atStart=>exact ⟨0,Q8 _,rfl,λj _ hj=>absurd hj (Z6 _)⟩
 obtain ⟨k,hk,rfl,A⟩:=hrel
 by_cases hlt:k<n
 ·have cD:(0:Int)<=(k:Int):=Ia
  have cE:(k:Int)<(n:Int):=Ia
  obtain ⟨y,hy⟩:∃ y,s.tables[k]?=some y:=⟨_,Qx (by rw [HN.o];exact hlt)⟩
  obtain ⟨b,cF,ct,rfl,cC,cB,_,hR,I⟩:=(HT.o.below aQ.o).elem hy
  have aV:=hR
  obtain ⟨aA,Z,aE,aD,aM,aL,k9,aN,n9,aO,aI,aF,U,aJ,aG,V,aK,aH,Y,a9,z9,aY,_⟩:=Yq hR
  simp only [AL] at aY
  subst aY
  have d0:=I 0 _ rfl
  have d1:=I 1 _ rfl
  have d2:=I 2 _ rfl
  have d3:=I 3 _ rfl
  have d4:=I 4 _ rfl
  have d5:=I 5 _ rfl
  have d6:=I 6 _ rfl
  have d7:=I 7 _ rfl
  have d8:=I 8 _ rfl
  have d9:=I 9 _ rfl
  have bO:=I 10 _ rfl
  have bP:=I 11 _ rfl
  have bQ:=I 12 _ rfl
  simp only [show Zn.k=13 from rfl,Nat.add_zero] at d0 d1 d2 d3 d4 d5 d6 d7 d8 d9 bO bP bQ
  have bN:=Qq aV;have HY:=Qq hy
  clear hR aV I hy
  by_cases he:y.name=x0
  ·have hq:(y.name==x0)=true:=by rw [he];simp
   have aR:r=some y:=by rw [<- HR.o];exact Qjp HY.o he A.o
   subst aR
   clear he A
   go_wp2_with fail
   obtain ⟨W,M⟩:=eX (U5 W1 (w+1) y.name (.slice aA y.columns.length Z) (.slice aE y.key.length aD) (.slice aM y.refs.length aL) k9 (.string aN) n9 (.string aO) (.slice aI aF U) (.slice aJ aG V) (.slice aK aH Y) a9 z9)
   have q:∀ j,W.cell? ⟨w+1,j,none⟩=#[.string ⟨y.name.toArray⟩,.slice aA y.columns.length Z,.slice aE y.key.length aD,.slice aM y.refs.length aL,.int .i64 k9,.string aN,.int .i64 n9,.string aO,.slice aI aF U,.slice aJ aG V,.slice aK aH Y,.int .i64 a9,.int .i64 z9][j]?:=λj=>by rw [<- M];exact Ut aU.o j
   have G:∀ b,b≠w.heap.size+1->W.heap[b]?=W1.heap[b]?:=λb hb=>by rw [<- M];exact Jw hb
   have D:Below w w W:=by rw [<- M];exact V9 aQ.o Ia
   show bodyPost _ _ _ _ _ (U5 W1 (w+1) y.name (.slice aA y.columns.length Z) (.slice aE y.key.length aD) (.slice aM y.refs.length aL) k9 (.string aN) n9 (.string aO) (.slice aI aF U) (.slice aJ aG V) (.slice aK aH Y) a9 z9)
   rw [M]
   have J:=Qq D;have aP:=Qq G
   obtain ⟨q0,q1,q2,q3,q4,q5,q6,q7,q8,q9,N,O,T⟩:=AX q
   simp only [Qf,Qg,Qh] at q0 q1 q2 q3 q4 q5 q6 q7 q8 q9 N O T
   clear M D G q
   refine Q7 (v:=.tuple #[.agg (AR y aA Z aE aD aM aL k9 aN n9 aO aI aF U aJ aG V aK aH Y a9 z9),.bool true]) (by simp [results,results68,go_sem,q0,q1,q2,q3,q4,q5,q6,q7,q8,q9,N,O,T]) rfl ⟨_,rfl,Zn.mono (Zn.frame bN.o (λb hb _=>aP.o b (by have:=hb.2;omega))) (λb _ h=>h.1),J.o⟩
  have hq:(y.name==x0)=false:=by rw [<- Qt,beq_iff_eq];exact he
  have HE:=Qq he
  clear he
  go_wp2_with fail
  go_round
  case measure=>simp [intOf];omega
  case rel=>
   refine ⟨k+1,Ia,by go_num,(show Aside _ from λj z hj hz=>?_)⟩
   by_cases e:j=k
   ·subst e
    have:=HY.o
    rw [this] at hz
    cases hz
    simpa using HE.o
   exact A.o j z Ia hz
 have bX:¬ (k:Int)<(n:Int):=Ia
 have:k=n:=Ia
 subst this
 have aR:r=none:=by rw [<- HR.o];exact Se (λj y hy=>A.o j y (by have:=(Qj hy).1;have:=HN.o;omega) hy)
 subst aR
 clear A
 go_wp2_with fail
 obtain ⟨W,M⟩:=eX (U5 W1 (w+1) Ig Ie Ie Ie Ic Ig Ic Ig Ie Ie Ie Ic Ic)
 have q:∀ j,W.cell? ⟨w+1,j,none⟩=zT[j]?:=λj=>by rw [<- M];exact Ut aU.o j
 have G:∀ b,b≠w.heap.size+1->W.heap[b]?=W1.heap[b]?:=λb hb=>by rw [<- M];exact Jw hb
 have D:Below w w W:=by rw [<- M];exact V9 aQ.o Ia
 show bodyPost _ _ _ _ _ (U5 W1 (w+1) Ig Ie Ie Ie Ic Ig Ic Ig Ie Ie Ie Ic Ic)
 rw [M]
 have J:=Qq D;have aP:=Qq G
 obtain ⟨q0,q1,q2,q3,q4,q5,q6,q7,q8,q9,N,O,T⟩:=AX q
 simp only [Qf,Qg,Qh] at q0 q1 q2 q3 q4 q5 q6 q7 q8 q9 N O T
 clear M D G q
 refine Q7 (v:=.tuple #[.agg zT,.bool false]) (by simp [results,results68,go_sem,q0,q1,q2,q3,q4,q5,q6,q7,q8,q9,N,O,T]) rfl ⟨[Ig,Ie,Ie,Ie,Ic,Ig,Ic,Ig,Ie,Ie,Ie,Ic,Ic],rfl,Gv _ _,J.o⟩
theorem Zb {W:World} {b:Nat} {o:Obj} (h:W.heap[b]?=some o) (o':Obj):(W.alloc o').heap[b]?=some o:=((Zg W o').block b (Z8 h)).trans h
theorem Y6 {W:World} {n:Nat} (h:W=n) (o:Obj):(W.alloc o).heap[n]?=some o:=by subst h;exact Qw W o
theorem Ts {T:Type} (r:Rd T) (S:Nat->Prop) (w:World) (p:Option Addr) (c:Nat):Sl r S w (.slice p 0 c) []:=⟨p,c,rfl,Ib,λh=>absurd rfl h⟩
theorem O0 (S:Nat->Prop) (w:World) (p1 p2 p3:Option Addr) (c1 c2 c3:Nat):Yx S w [.int .i64 2,Ig,.int .i64 1,Ig,.slice p1 0 c1,.slice p2 0 c2,.slice p3 0 c3,Ic,Ic] Gen.yes:=
 Xv (nm:=[]) (s:=[]) Ib Ib (Ts _ _ _ _ _) (Ts _ _ _ _ _) (Ts _ _ _ _ _)
theorem U0 {S:Nat->Prop} {w:World} (nm:Bs) (k:Int) (tn:Bs) (h1:nm.length<=1000000) (h2:tn.length<=1000000):Xa.R S w [nm,k,tn,Ic,Ie,Ie] ⟨nm,.mk k tn 0 [] []⟩:=
 ⟨_,rfl,h1,D9 h2 (Sl.nil _ _ _) (Sl.nil _ _ _)⟩
theorem Oo {S:Nat->Prop} {w:World} (nm:Bs) (b:Bool) (k:Int) (h1:nm.length<=1000000):Bn.R S w [nm,.bool b,k,Ig,Ic,Ie,Ie] ⟨nm,b,.mk k [] 0 [] []⟩:=
 ⟨_,rfl,h1,D9 (s:=[]) Ib (Sl.nil _ _ _) (Sl.nil _ _ _)⟩
theorem Dq {S:Nat->Prop} {w:World} (a:Bs) (ha:a.length<=1000000):Cs Zh S w [[.string ⟨a.toArray⟩]] [a]:=Cs.one (r:=Zh) (x:=a) (show Zh.R S w [a] a from ⟨rfl,ha⟩)
def J7 (w:World) (x:Ex) (e:Ending) (w':World):Prop:=∃ cs,e=.returned (.agg cs.toArray)/\Yx (λb=>w<=b) w' cs x/\Below w w w'
def NewSc (w:World) (x:Sc) (e:Ending) (w':World):Prop:=∃ cs,e=.returned (.agg cs.toArray)/\Ve (λb=>w<=b) w' cs x/\Below w w w'
theorem Yj {w W:World} (h:Below w w W) (o:Obj):Below w w (W.alloc o):=h.alloc h.size o
namespace Inc
def Up (l:List (List Int)):Prop:=l.Pairwise (λa b=>lex a b<0)
theorem irr (a:List Int):¬ lex a a<0:=by rw [Ri];omega
theorem asymm {a b:List Int} (h:lex a b<0):¬ lex b a<0:=by rw [Kp];omega
theorem uniq:∀ (a b:List (List Int)),Up a->Up b->(∀ x,x ∈ a↔x ∈ b)->a=b
 | [],b,_,_,h=>by
  cases b with
  | nil=>rfl
  | cons y b=>exact absurd ((h y).2 List.mem_cons_self) Z2
 | x::a,[],_,_,h=>absurd ((h x).1 List.mem_cons_self) Z2
 | x::a,y::b,ha,hb,h=>by
  have hx:=List.pairwise_cons.1 ha
  have G:=List.pairwise_cons.1 hb
  have D:x=y:=by
   rcases Z3.1 ((h x).1 List.mem_cons_self) with h1 | h1
   ·exact h1
   rcases Z3.1 ((h y).2 List.mem_cons_self) with h2 | h2
   ·exact h2.symm
   exact absurd (hx.1 y h2) (asymm (G.1 x h1))
  subst D
  rw [uniq a b hx.2 G.2 (λz=>?_)]
  constructor
  ·intro A
   rcases Z3.1 ((h z).1 (List.mem_cons_of_mem _ A)) with h1 | h1
   ·subst h1;exact absurd (hx.1 z A) (irr z)
   exact h1
  intro A
  rcases Z3.1 ((h z).2 (List.mem_cons_of_mem _ A)) with h1 | h1
  ·subst h1;exact absurd (G.1 z A) (irr z)
  exact h1
end Inc
def UpV (l:List Val):Prop:=l.Pairwise (λa b=>Zu a b<0)
theorem Po {l:List Val}:UpV l↔Inc.Up (l.map key):=by
 unfold UpV Inc.Up
 rw [List.pairwise_map]
 simp only [Kn]
theorem Sx {l:List Val} {x:Val}:Hk l x=true↔key x ∈ l.map key:=by
 unfold Hk
 rw [List.any_eq_true,List.mem_map]
 constructor
 ·rintro ⟨y,A,h⟩;exact ⟨y,A,F5.1 h⟩
 rintro ⟨y,A,h⟩;exact ⟨y,A,F5.2 h⟩
theorem upV_same {a b:List Val} (ha:UpV a) (hb:UpV b) (h:∀ k,k ∈ a.map key↔k ∈ b.map key):Fq a b=true:=by
 unfold Fq
 exact decide_eq_true (Inc.uniq _ _ (Po.1 ha) (Po.1 hb) h)
theorem putV_mem (l:List Val) (x:Val) (k:List Int):k ∈ (Uk l x).map key↔k=key x\/k ∈ l.map key:=by
 unfold Uk
 split
 ·rename_i h
  have:=Sx.1 h
  constructor
  ·exact .inr
  rintro (rfl | h)
  ·exact this
  exact h
 have:l.map key=(l.take (Xq l x)).map key++(l.drop (Xq l x)).map key:=by rw [<- List.map_append,List.take_append_drop]
 rw [this]
 simp only [List.map_append,List.map_cons,Z4,Z3]
 constructor
 ·rintro (h | h | h)
  ·exact .inr (.inl h)
  ·exact .inl h
  exact .inr (.inr h)
 rintro (h | h | h)
 ·exact .inr (.inl h)
 ·exact .inl h
 exact .inr (.inr h)
theorem Fl {α:Type} (p:α->Bool):∀ (l:List α) (x:α),x ∈ l.take (l.takeWhile p).length->p x=true
 | [],x,h=>by simp at h
 | a::l,x,h=>by
  rw [List.takeWhile_cons] at h
  split at h
  ·rename_i hp
   rw [List.length_cons,List.take_succ_cons] at h
   rcases Z3.1 h with rfl | h
   ·exact hp
   exact Fl p l x h
  simp at h
theorem L2 {α:Type} (p:α->Bool):∀ (l:List α) (y:α) (r:List α),l.drop (l.takeWhile p).length=y::r->p y=false
 | [],y,r,h=>by simp at h
 | a::l,y,r,h=>by
  rw [List.takeWhile_cons] at h
  split at h
  ·rw [List.length_cons,List.drop_succ_cons] at h
   exact L2 p l y r h
  rename_i hp
  simp at h
  rw [<- h.1];simpa using hp
theorem Av {l:List Val} (h:UpV l) (x:Val):UpV (Uk l x):=by
 by_cases hh:Hk l x=true
 ·unfold Uk;rw [if_pos hh];exact h
 rw [C8 _ _ (by simpa using hh)]
 have I:∀ y ∈ l,Zu y x≠0:=λy D h0=>hh (Sx.2 (List.mem_map.2 ⟨y,D,Fy.1 h0⟩))
 have h1:∀ y ∈ l.take (Xq l x),Zu y x<0:=λy D=>by
  have:=Fl _ _ _ D
  have h2:=of_decide_eq_true this
  have:=I y (List.mem_of_mem_take D)
  omega
 have A:=h
 unfold UpV at A |-
 rw [<- List.take_append_drop (Xq l x) l,List.pairwise_append] at A
 have hl:∀ a b:Val,Zu a b<0->∀ c,Zu b c<0->Zu a c<0:=λa b h c h'=>by rw [Kn] at *;exact Ez h h'
 have h2:∀ y ∈ l.drop (Xq l x),Zu x y<0:=by
  intro y D
  cases hd:l.drop (Xq l x) with
  | nil=>rw [hd] at D;cases D
  | cons z r=>
   have hz:=L2 _ _ _ _ hd
   have J:0<Zu z x:=by
    have:=of_decide_eq_false hz
    omega
   have G:Zu x z<0:=by
    rw [Kn,Kp,<- Kn];omega
   rw [hd] at D
   rcases Z3.1 D with rfl | D
   ·exact G
   have:=A.2.1
   rw [hd] at this
   exact hl _ _ G _ ((List.pairwise_cons.1 this).1 y D)
 rw [List.pairwise_append]
 refine ⟨A.1,List.pairwise_cons.2 ⟨h2,A.2.1⟩,λa ha b hb=>?_⟩
 rcases Z3.1 hb with rfl | hb
 ·exact h1 a ha
 exact A.2.2 a ha b hb
end Go.Proofs.YtdpibdpbgokmoaaGreatDoor
