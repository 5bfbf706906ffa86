import Derived.Test.YtdpibdpbgokmoaaGreatDoorA19
set_option maxRecDepth 100000
set_option maxHeartbeats 400000000
namespace Go.Proofs.YtdpibdpbgokmoaaGreatDoor
open Go.RowKit Go.Shelf Go.Lib Tryz
def RKeyIs (S:Nat->Prop) (w:World) (l:List Val) (e:Ending) (w':World):Prop:=∃ p cap,e=.returned (.slice p l.length cap)/\Sl Zc (λb=>S b\/w<=b) w' (.slice p l.length cap) l/\Below w w w'
def GotMid (S:Nat->Prop) (w:World) (u:Val) (b:Bool) (t7 t8:Value) (wx:World):Prop:=
 ∃ G q3 m3 q4 m4,t7=.pointer (some ⟨G,0,none⟩)/\t8=.bool b/\wx.heap[G]?=some (.cells (Is u q3 m3 q4 m4) 36 (0,0))/\Z9 S wx (Il u q3 m3 q4 m4) u/\Below w w wx/\w.heap.size<=G
theorem B6 (S S0:Nat->Prop) (t:Tbl) (row:Val) (ct cr:List Value) (w:World) (ht:Zn.R S w ct t) (hr0:Z9 S0 w cr row) (hkl:t.key.length<=1000):
  Calls prog 42 #[ct,cr] w (RKeyIs S0 w ((keyOf t.key row).getD [])):=by
 have hr:Z9 (λb=>S0 b/\b<w) w cr row:=hr0.move (.refl _ _) (λb hb h=>⟨h,hb⟩)
 clear hr0
 have HG:=Qq (λx W (hb:Below w w W)=>Ht _ row cr x W (hr.move (.f hb) Ij))
 obtain ⟨cO,cN,cT,bR,dA,cZ,k0,dB,n0,dC,cW,cU,cK,cX,n20,cL,cY,cV,cM,a0,z0,rfl,_,_,aD,_,_⟩:=Yq ht
 obtain ⟨r3,l3,r4,l4,bG,_⟩:=Z9.cells hr
 simp only [Il] at bG
 subst bG
 unfold AL
 have HK:=Qq aD
 obtain ⟨i0,j1,j2,j3,j4⟩:=Y8 (P:=prog) (t:=36) (z:=.agg zV) (n:=5) (b:=80) Ir
 obtain ⟨HJ,bX,bY,bZ⟩:=It j1 j2 j3 j4
 clear j1 j2 j3 j4
 clear ht hr aD
 obtain ⟨n,hn⟩:=eX (t.key.length)
 rw [hn] at HK hkl |-
 have HN:=Qq hn
 clear hn
 obtain ⟨r,hr⟩:=eX (keyOf t.key row)
 rw [hr]
 have HR:=Qq hr
 clear hr
 unfold sv at HG
 go_enter func42,ntmps42
 go_wp2_with fail
 generalize aA:(w.alloc _).alloc _=W1
 have bD:=Iq aA (Zs _ _ _)
 have bA:W1.heap[w.heap.size]?=some (.cells (AR t cO cN cT bR dA cZ k0 dB n0 dC cW cU cK cX n20 cL cY cV cM a0 z0) 48 (0,0)):=by rw [<- aA,HN.o];exact Q5 _ _ _
 have bC:=Ik (b:=w.heap.size+1) aA (Q6 _ _ _)
 obtain ⟨bU,cJ,aT⟩:=Im bD bA bC
 clear aA bD bA bC
 go_loopw [5,6,7,8] (λo i _ _ wr=>∃ (k:Nat) (l:List Val) (p:Option Addr) (cap:Nat),k<=n/\i=.int .i64 k/\o=.slice p k cap/\l.length=k/\Aside (keyOf (t.key.take k) row=some l)/\Below (w+2) W1 wr /\
  (∃ css,Own Zc 36 (λb=>(S0 b/\b<w)\/w+2<=b) (w+2) wr (.slice p k cap) l css)) (λ_ i _ _ _=>n - (intOf i).toNat)
 case atStart=>exact ⟨0,[],none,0,Q8 _,rfl,rfl,rfl,rfl,Qz _ _,[],Own.nil _ _ _ _ _⟩
 obtain ⟨k,l,p,cap,dN,rfl,rfl,bK,hE,I,css,hO⟩:=hrel
 have dP:=Z8 aT.o
 have bB:=kE I Ia cJ.o
 have M:=kE I Ia aT.o
 have c2:=Qk _ _ 2 _ _ _ bB;have y0:=AB M;have y1:=AA M;have y2:=AM M;have y3:=AH M;have y4:=Iz M
 simp only [Qf,Qg,Qh,HN.o] at c2
 have bF:Below w w wr:=bU.o.trans (I.mono Ia)
 have dO:=I.size
 obtain ⟨bV,Y,HO,HE,Z⟩:=AO I bF hO hE.o bK
 clear bB M I bF hO hE bK
 by_cases aL:k<n
 ·have dL:(0:Int)<=(k:Int):=Ia
  have dM:(k:Int)<(n:Int):=Ia
  have aB:k<t.key.length:=by rw [HN.o];exact aL
  obtain ⟨x,hx⟩:∃ x,t.key[k]?=some x:=⟨_,Qx aB⟩
  have bN:t.key.take (k+1)=t.key.take k++[x]:=by rw [Zz aB];rw [Qx aB] at hx;cases hx;rfl
  obtain ⟨kb,aE,cR,aK,-⟩:=(HK.o.below Y.o).str hx
  subst cR
  have bI:=Qv _ _ aK
  have HX:=Qq hx;have cG:=Qq bN
  clear hx bN aB
  obtain ⟨kc,aC⟩:=eX (bR)
  rw [aC] at c2
  clear aC
  go_upto_region 5 with fail
  obtain ⟨u,hu⟩:=eX ((Yp row x).getD Val.zero)
  obtain ⟨b,hb⟩:=eX ((Yp row x).isSome)
  have HU:=Qq hu;have aG:=Qq hb
  refine let_mvar% ?Lq1:=λw':World=>Ii w' w 2 (Io kb aE n kc)/\AQ w' (w+1) row.kind row.n row.s (.slice r3 row.names.length l3) (.slice r4 row.kids.length l4) (Ii w' kb (aE+k) x/\Below wr wr w');?_
  have HS:∀ w',Below wr wr w'->?Lq1 w':=by
   intro w' h
   have hh:∀ {b j:Nat} {u:Value},b<wr->wr.cell? ⟨b,j,none⟩=some u->w'.cell? ⟨b,j,none⟩=some u:=λaL hc=>kD h aL hc
   exact ⟨hh Ia c2,hh Ia y0,hh Ia y1,hh Ia y2,hh Ia y3,hh Ia y4,hh bI aK,h⟩
  have A:∀ w',?Lq1 w'->Below wr wr w':=λw' h=>h.2.2.2.2.2.2.2
  have HA:∀ w' o,?Lq1 w'->?Lq1 (w'.alloc o):=λw' o h=>HS _ ((A w' h).alloc (A w' h).size o)
  have HP:∀ w' a b c d e,?Lq1 w'->?Lq1 (Zl w' wr a b c d e):=λw' a b c d e h=>HS _ (Zd (A w' h) (Q9 _))
  unfold Zl at HP
  have HC:=Qq (λW' (h':?Lq1 W')=>(HG.o x W' (Y.o.n (A _ h'))).mono (R':=λe w2=>∃ T N U O,e=.returned (.tuple #[.agg (Is u T N U O),.bool b])/\Z9 (λb=>S0 b/\b<w) w2 (Il u T N U O) u/\Below W' W' w2/\?Lq1 w2) (by
   rintro e w2 ⟨dI,rfl,h3,h4⟩
   rw [HU.o] at h3
   rw [aG.o]
   obtain ⟨T,N,U,O,cQ,_⟩:=Z9.cells h3
   subst cQ
   exact ⟨T,N,U,O,rfl,h3,h4,HS _ ((A _ h').n h4)⟩))
  obtain ⟨aQ,aR,aN,D,aF,aO⟩:=BE (HS wr.drew (Qz _ _).drew) (HS wr (Qz _ _)) (λw' (h:?Lq1 w')=>HS w'.drew (A w' h).drew) A HA HP
  clear HS A HA HP c2 y0 y1 y2 y3 y4 aK hu hb
  go_cut [7,8] from 9 to 31 (λt7 t8 wx=>GotMid (λb=>S0 b/\b<w) wr u b t7 t8 wx)
  case first=>
   go_region_held3 ?Lq1 (first | with_reducible exact aQ.o | with_reducible exact J | with_reducible exact aN.o _ (aF.o _ _ aR.o) | with_reducible exact aF.o _ _ J | with_reducible exact aO.o _ _ _ _ _ _ J)
    (first
     | (go_at_call 43;refine (HC.o _ AN).mono ?_;rintro e w2 ⟨T,N,U,O,rfl,bO,aI,J⟩;(try (have r2:w2.heap[wr.heap.size]?=some (.cells zV 36 (0,0)):=(aI.block wr Ib).trans (Qw wr _);obtain ⟨y0,y1,y2,y3,y4⟩:=If r2;obtain ⟨g0,g1,g2,g3,g4⟩:=Ip r2;have aP:=Qq r2;clear r2));have aS:=Qq bO;have dG:=Qq aI;clear bO aI))
   all_goals
    go_wp2_with fail
    go_meet
    first
     | (have h9:=aP.o;clear h9;exact ⟨wr.heap.size,T,N,U,O,rfl,rfl,Yd aP.o,Z9.move aS.o (λb hb _=>Zf (by have:=hb.2;omega)) Ij,Zd (D.o _ J) (Q9 _),Q9 _⟩)
     | exact ⟨w2.heap.size,T,N,U,O,rfl,rfl,Qw _ _,Z9.move aS.o (.f (Zg _ _)) Ij,(D.o _ J).n (Zg _ _),(D.o _ J).size⟩
  obtain ⟨G,T,N,U,O,rfl,rfl,hG,bP,bE,dJ⟩:=hcut
  obtain ⟨dH,cI,V⟩:=Im hG bP bE
  have dK:=Z8 hG
  clear HC aQ aR aN D aF aO
  obtain ⟨g0,g1,g2,g3,g4⟩:=If hG
  clear hG bP bE
  cases b with
  | false=>
   have bL:Yp row x=none:=by have:=aG.o;cases hq:Yp row x with
    | none=>rfl
    | some _=>rw [hq] at this;cases this
   have hr0:r=none:=by rw [<- HR.o];exact Lz (Qy HX.o) bL
   subst hr0
   clear bL
   go_wp2_with fail
   go_ret
   exact ⟨none,0,rfl,Sl.nil _ _ _,Y.o.n V.o⟩
  | true=>
   have bH:Yp row x=some u:=by
    have h1:=aG.o;have h2:=HU.o
    cases hq:Yp row x with
    | none=>rw [hq] at h1;cases h1
    | some v=>rw [hq] at h2;rw [<- h2];rfl
   have bW:=Qq bH
   clear bH
   have aX:=HO.o.below V.o
   have aZ:Zc.R (But (λb=>(S0 b/\b<w)\/w+2<=b) (.slice p k cap)) wc (Is u T N U O) u:=Z9.move cI.o (.refl _ _) (λb _ hb=>⟨.inl hb,λe=>by
    have:=(HO.o.row.lt b e.symm).1
    have:=hb.2
    omega⟩)
   have cC:=Qq aX;have cH:=Qq aZ
   have dF:=V.o.size
   clear aX aZ
   go_wp2_with (at_builtin;refine Yo (r:=Zc) Ih rfl (.tmp 28) (.tmp 30) _ rfl 36 i0 (.agg zV) 80 underlying34 HJ.o bX.o bY.o bZ.o rfl Ia (λb=>(S0 b/\b<w)\/w+2<=b) (w+2) wc (.slice p k cap) l css (Is u T N U O) u rfl cC.o rfl cH.o (by simp [Value.oneCell']) k Z.o Ia Ia ?_;intro p7 aU aV w7 aY aW;have cD:=Qq aY;have cA:=Qq aW;clear aY aW)
   go_roundw
   case measure=>simp [intOf];omega
   case rel=>
    refine ⟨k+1,l++[u],p7,aU,Ia,by go_num,rfl,by have:=Z.o;simp [this],(show Aside _ from ?_),(bV.o.trans (V.o.mono Ia)).trans cA.o.below,aV,cD.o⟩
    have:keyOf (t.key.take (k+1)) row=some (l++[u]):=by rw [cG.o,Ln,HE.o,bW.o]
    exact this
 have bJ:k=n:=Ia
 subst bJ
 have bM:r=some l:=by
  rw [<- HR.o,<- HE.o,Zj (by rw [HN.o];exact Q9 _)]
 have cF:=Qq bM
 clear bM
 go_wp2_with fail
 go_ret
 unfold RKeyIs
 rw [cF.o,Option.getD_some,Z.o]
 exact ⟨p,cap,rfl,HO.o.sl (Ix Z.o) (λb hb=>.inr Ia) (λb _ hb=>by
  rcases hb with h | h
  ·exact .inl h.1
  exact .inr Ia),Y.o⟩
def V5 (S:Nat->Prop) (w:World) (v:Value) (xs:List Int):Prop:=
 ∃ p cap,v=.slice p xs.length cap/\xs.length<=9223372036854775807/\(xs≠[]->∃ b off,p=some ⟨b,off,none⟩/\S b/\b<w.heap.size/\∀ i x,xs[i]?=some x->w.cell? ⟨b,off+i,none⟩=some (.int .i64 x))
theorem V5.len {S:Nat->Prop} {w:World} {v:Value} {xs:List Int} (h:V5 S w v xs):∃ p cap,v=.slice p xs.length cap/\xs.length<=9223372036854775807:=by
 obtain ⟨p,cap,h1,h2,_⟩:=h;exact ⟨p,cap,h1,h2⟩
theorem V5.below {S:Nat->Prop} {w w':World} {v:Value} {xs:List Int} (h:V5 S w v xs) (hb:Below w w w'):V5 S w' v xs:=by
 obtain ⟨p,cap,h1,h2,h3⟩:=h
 refine ⟨p,cap,h1,h2,λG=>?_⟩
 obtain ⟨b,D,e,hS,A,hc⟩:=h3 G
 exact ⟨b,D,e,hS,Qa A hb.size,λi x hx=>(hb.cell (p:=⟨b,D+i,none⟩) A).trans (hc i x hx)⟩
theorem Ys (S:Nat->Prop) (v:Value) (l:List Int) (i:Nat) (m:Int) (w:World) (hs:V5 S w v l) (hi:Kz l) (hm:1<=m) (hm2:m<=1000000000):
  Calls prog 18 #[v,i,m] w λe w'=>e=.returned (.int .i64 (Xk l i m))/\w=w':=by
 have I:decide ((i:Int)<0)=false:=Ib
 obtain ⟨p,cap,rfl,hl,A⟩:=hs
 by_cases h:i<l.length
 ·obtain ⟨n,D⟩:∃ n,l[i]?=some n:=⟨_,Qx h⟩
  obtain ⟨b,J,rfl,_,hb,A⟩:=A (λe=>by rw [e] at h;exact absurd h (Z6 i))
  have c0:=A i n D
  have HA:=Qq (λW=>Fs n m W (hi n (Qy D)).1 (hi n (Qy D)).2 hm Ia)
  have G:Xk l i m=Vd n m:=by unfold Xk;rw [D]
  rw [G]
  generalize Vd n m=r at HA |-
  have h1:(i:Int)<(l.length:Int):=Ia
  have h2:decide ((l.length:Int)<=(i:Int))=false:=by simp;omega
  clear hi D A G
  go_enter func18,ntmps18
  go_wp2_with (go_at_call 13;refine (HA.o _).mono ?_;rintro e w' ⟨rfl,rfl⟩)
  go_ret
  exact ⟨rfl,rfl⟩
 have G:Xk l i m=0:=by unfold Xk;rw [List.getElem?_eq_none Ia]
 rw [G]
 have h2:decide ((l.length:Int)<=(i:Int))=true:=by simp;omega
 clear hi G A
 go_enter func18,ntmps18
 go_wp2_with fail
 go_ret
 exact ⟨rfl,rfl⟩
theorem Jg {S:World->Prop} {W:World} (hS:∀ w',Below W W w'->S w') (hB:∀ w',S w'->Below W W w'):Hid (S W.drew)/\Hid (S W)/\Hid (∀ w',S w'->S w'.drew)/\Hid (∀ w',S w'->Below W W w')/\Hid (∀ w' o,S w'->S (w'.alloc o))/\Hid (∀ w',Below W W w'->S w'):=
 ⟨Qq (hS _ (Qz _ _).drew),Qq (hS _ (Qz _ _)),Qq (λw' h=>hS _ (hB w' h).drew),Qq hB,Qq (λw' o h=>hS _ ((hB w' h).alloc (hB w' h).size o)),Qq hS⟩
theorem Own.wide {T:Type} {r:Rd T} {E:TypeId} {S S':Nat->Prop} {B:Nat} {w:World} {v:Value} {xs:List T} {css:List (List Value)} (h:Own r E S B w v xs css) (hS:∀ b,b<w.heap.size->S b->S' b):Own r E S' B w v xs css:=
 ⟨h.row,h.cs.move (.refl _ _) (λb hb h=>⟨hS b hb h.1,h.2⟩)⟩
def CloneOwn (k n:Int) (s:Bs) (ns:List Bs) (ks:List Val) (w:World) (e:Ending) (w':World):Prop:=
 ∃ np ncap kp kcap css,e=.returned (.agg #[k,n,s,.slice np ns.length ncap,.slice kp ks.length kcap])/\Own Zc 36 (λb=>w<=b) w w' (.slice kp ks.length kcap) ks css/\Below w w w'/\Sl Zh (λb=>w<=b/\some b≠(Value.slice kp ks.length kcap).ownBlock) w' (.slice np ns.length ncap) ns
theorem cloneOwn (k n:Int) (s:Bs) (ns:List Bs) (ks:List Val) (S0:Nat->Prop) (cs:List Value) (w:World) (hx0:Z9 S0 w cs (.mk k n s ns ks)):Calls prog 125 #[cs] w (CloneOwn k n s ns ks w):=by
 have ih:∀ x ∈ ks,H8 x:=λx _=>Bw x
 have hx:Z9 (λb=>b<w) w cs (.mk k n s ns ks):=hx0.move (.refl _ _) (λb hb _=>hb)
 clear hx0
 obtain ⟨nv,kv,rfl,hs,hn,hk⟩:=Uq.1 hx
 have cN:ns.length<=1000000:=by obtain ⟨_,_,_,h⟩:=hn.len;exact h
 have dX:ks.length<=1000000:=by obtain ⟨_,_,_,h⟩:=hk.len;exact h
 obtain ⟨HN,HK,HI⟩:=Im hn hk ih
 clear hx hn hk ih
 unfold sv
 go_enter func125,ntmps125
 go_upto_region 1 with fail
 go_cut [12] (λ_ wx=>∃ np I kp A U,Kq w k n s ns ks np I kp A U 0 wx/\Cs Zc (λb=>b<w) w U ks)
 case first=>
  go_region_with (first | (go_at_call 162;refine (Lt _ nv ns _ (HN.o.below (by first | exact (Zs _ _ _).drew | exact (Zs _ _ _).drew.n aP.o | exact (Zs _ _ _).drew.n aQ.o))).mono ?_;rintro e w1 ⟨np,I,dY,rfl,bK,aL⟩;obtain ⟨aE,aG⟩:=Lh aL;have cP:=aL.size;have aP:=Qq aL;have bZ:=Qq bK;clear aL bK;(try simp at cP);have cK:w.heap.size<w1.heap.size:=Ia;have cM:w.heap.size+1<w1.heap.size:=Ia;have dI:w1.cell? ⟨w,3,none⟩=some nv:=(by first | (rw [aE _ _ (by simp;omega)];simp) | (rw [aE _ _ AN];assumption));have dN:w1.frozen? ⟨w,3,none⟩=false:=(by first | (rw [aG _ _ (by simp;omega)];simp) | (rw [aG _ _ AN];assumption));have dJ:w1.cell? ⟨w,4,none⟩=some kv:=(by first | (rw [aE _ _ (by simp;omega)];simp) | (rw [aE _ _ AN];assumption));have dO:w1.frozen? ⟨w,4,none⟩=false:=(by first | (rw [aG _ _ (by simp;omega)];simp) | (rw [aG _ _ AN];assumption));clear aE aG) | (go_at_call 49;refine (Gp _ kv ks _ (HK.o.below (by first | exact (Zs _ _ _).drew | exact (Zs _ _ _).drew.n aP.o | exact (Zs _ _ _).drew.n aQ.o))).mono ?_;rintro e w2 ⟨kp,A,U,rfl,bL,aM⟩;obtain ⟨aF,aH⟩:=Lh aM;have cQ:=aM.size;have aQ:=Qq aM;have aS:=Qq bL;clear aM bL;(try simp only [World.size_drew,World.size_alloc] at cQ);have dR:w.heap.size<w2.heap.size:=Ia;have dV:w.heap.size+1<w2.heap.size:=Ia;have dK:w2.cell? ⟨w,3,none⟩=some nv:=(by first | (rw [aF _ _ (by simp;omega)];simp) | (rw [aF _ _ AN];assumption));have dP:w2.frozen? ⟨w,3,none⟩=false:=(by first | (rw [aH _ _ (by simp;omega)];simp) | (rw [aH _ _ AN];assumption));have dL:w2.cell? ⟨w,4,none⟩=some kv:=(by first | (rw [aF _ _ (by simp;omega)];simp) | (rw [aF _ _ AN];assumption));have dQ:w2.frozen? ⟨w,4,none⟩=false:=(by first | (rw [aH _ _ (by simp;omega)];simp) | (rw [aH _ _ AN];assumption));clear aF aH))
  all_goals
   go_wp2_with fail
   go_meet
   have b1:=aP.o
   have b2:=aQ.o
   have bE:=b1.block w (by simp;omega)
   have aO:=b1.block (w+1) Ib
   rw [heap_drew,Q5] at bE
   rw [heap_drew,Q6] at aO
   have cJ:=kE b2 cK bE
   have bF:=kE b2 cM aO
   have bH:Below w w w2:=(Zs _ _ _).drew.n (b1.n b2)
   refine ⟨np,I,kp,A,U,⟨(bH.setCell (p:=⟨w,3,none⟩) (Q9 _) _).setCell (p:=⟨w,4,none⟩) (Q9 _) _,?_,?_,?_,⟨[],rfl,?_,⟨rfl,λi c x hc=>by simp at hc⟩⟩⟩,?_⟩
   ·exact Qi _ _ _ _ _ _ (Qi _ _ _ _ _ _ cJ)
   ·rw [Za Ib,Za Ib];exact bF
   ·refine ((sl_str bZ.o cN Ib).mono (S':=λb=>w+2<=b/\some b≠(Value.slice kp ks.length A).ownBlock) (λb hb h=>⟨h,λe=>?_⟩)).frame (λb hb aA=>?_)
    ·have:=(aS.o.row.lt b e.symm).1
     omega
    rw [Za (by show b≠w;omega),Za (by show b≠w;omega)]
    exact b2.block b aA
   ·refine Vb aS.o.row Ia (λb hb aA=>?_)
    rw [Za (by show b≠w;omega),Za (by show b≠w;omega)]
   exact (aS.o.cs.move (S':=λb=>b<w) (.refl _ _) (λb _ h=>h.1)).move (λb hb _=>(bH.block b hb).symm) (λb _ h=>h)
 obtain ⟨np,I,kp,A,U,T,bD⟩:=hcut
 have HC:=Qq bD;have HM:=Qq T
 obtain ⟨c0,c1,c2,c3,c4⟩:=If T.box
 clear bD T
 go_wp2_with fail
 go_loopw [16] (λi wr=>∃ M:Nat,M<=ks.length/\i=.int .i64 M/\Kq w k n s ns ks np I kp A U M wr) (λi _=>ks.length - (intOf i).toNat)
 case atStart=>exact ⟨0,Q8 _,rfl,HM.o⟩
 obtain ⟨M,dW,rfl,T⟩:=hrel
 have c0:=Qk _ _ 0 _ _ _ T.box;have c1:=Qk _ _ 1 _ _ _ T.box;have c2:=Qk _ _ 2 _ _ _ T.box;have c3:=Qk _ _ 3 _ _ _ T.box;have c4:=Qk _ _ 4 _ _ _ T.box
 have r0:=Qk _ _ 0 _ _ _ T.res;have r1:=Qk _ _ 1 _ _ _ T.res;have r2:=Qk _ _ 2 _ _ _ T.res;have r3:=Qk _ _ 3 _ _ _ T.res;have r4:=Qk _ _ 4 _ _ _ T.res
 have fr:=λj=>Qn _ _ j _ _ T.res
 have dB:=(Array.getElem?_eq_some_iff.1 T.res).1
 simp only [Qf,Qg,Qh] at c0 c1 c2 c3 c4 r0 r1 r2 r3 r4
 have Y:=Qq T
 by_cases aA:M<ks.length
 ·obtain ⟨x,hx⟩:∃ x,ks[M]?=some x:=⟨_,Qx aA⟩
  obtain ⟨V,aI,G,D⟩:=T.kids
  obtain ⟨g,cap,bJ,dS,O⟩:=G.form Ia
  simp only [Qr] at bJ
  obtain ⟨rfl,-,rfl⟩:=bJ
  obtain ⟨oc,aV⟩:∃ oc,U[M]?=some oc:=⟨_,Qx (by rw [HC.o.len];exact aA)⟩
  have aX:=HC.o.R M oc x aV hx
  obtain ⟨p3,k3,p4,k4,rfl,_⟩:=Z9.cells (show Z9 _ w oc x from aX)
  have aD:∀ y ∈ V++U.drop M,y.length=5:=by
   intro y hy
   rcases Z4.1 hy with h | h
   ·exact D.all y h
   exact HC.o.all y (Zw h)
  have aT:(V++U.drop M)[M]?=some (Il x p3 k3 p4 k4):=by
   rw [Zx Ia,List.getElem?_drop,aI,Nat.sub_self,Nat.add_zero];exact aV
  have J:∀ (j:Nat) u,(Il x p3 k3 p4 k4)[j]?=some u->wr.cell? ⟨g,M*5+j,none⟩=some u:=by
   intro j u hu
   have h5:j<5:=(Qj hu).1
   rw [G.cellAt _ Ia]
   exact Vg aD aT hu
  have d0:=J 0 _ rfl;have d1:=J 1 _ rfl;have d2:=J 2 _ rfl;have d3:=J 3 _ rfl;have d4:=J 4 _ rfl
  rw [Nat.add_zero] at d0
  have fz:=λj=>G.frozenAt j
  have dT:(0:Int)<=(M:Int):=Ia
  have dU:(M:Int)<(ks.length:Int):=Ia
  have dC:w.heap.size≠wr.heap.size:=Ia
  have dD:w.heap.size+1≠wr.heap.size:=Ia
  have dE:g≠wr.heap.size:=Ia
  obtain ⟨HX,HV,HA,dF,HR⟩:=AO hx aX aD aT G;obtain ⟨dH,HL,aB,dG⟩:=It D aI fz fr
  clear hx aX aD aT G D aI J aV T fz fr r0 r1 r2 r3 r4 c0 c1 c2 c3
  go_upto_region 5 with fail
  obtain ⟨W5,aK⟩:=eX (wr.alloc (.cells (Is x p3 k3 p4 k4) 36))
  have aU:=Iq aK (Zg _ _)
  have bM:=Ik (b:=wr.heap.size) aK (Qw _ _)
  rw [aK]
  obtain ⟨x0,x1,x2,x3,x4⟩:=If bM
  have c5:=kD aU Ia c4
  have aR:=Qq aU
  have cD:=c4
  clear aK aU bM c4
  go_region_with (first | (go_at_call 125;refine (HI.o x (Qy HX.o) _ (Il x p3 k3 p4 k4) _ (Z9.move HV.o (.f (Y.o.below.n aR.o.drew)) Ij)).mono ?_;rintro e w4 ⟨dM,rfl,aW,bG⟩;obtain ⟨q3,l3,q4,l4,bI,_⟩:=Z9.cells aW;simp only [Il] at bI;subst bI;have N:=Qq (aR.o.drew.n bG);have cA:=Qq aW;clear aW bG;have e4:=kD N.o Ia cD;have g0:=kD N.o O d0;have g1:=kD N.o O d1;have g2:=kD N.o O d2;have g3:=kD N.o O d3;have g4:=kD N.o O d4;have f0:=(N.o.frozen (p:=⟨g,M*5,none⟩) O).trans (aB.o (M*5));have f1:=(N.o.frozen (p:=⟨g,M*5+1,none⟩) O).trans (aB.o (M*5+1));have f2:=(N.o.frozen (p:=⟨g,M*5+2,none⟩) O).trans (aB.o (M*5+2));have f3:=(N.o.frozen (p:=⟨g,M*5+3,none⟩) O).trans (aB.o (M*5+3));have f4:=(N.o.frozen (p:=⟨g,M*5+4,none⟩) O).trans (aB.o (M*5+4))))
  all_goals
   go_wp2_with fail
   go_roundw
   case measure=>simp [intOf];omega
   case rel=>exact ⟨M+1,Ia,by go_num,Y.o.next HX.o HC.o N.o (aR.o.size) cA.o⟩
 obtain rfl:M=ks.length:=Ia
 obtain ⟨cE,cF,cG,cH,cI⟩:=Iw fr
 clear fr
 go_wp2_with fail
 have Z:=Qi _ _ 4 _ _ (.slice kp ks.length A) (Qi _ _ 3 _ _ (.slice np ns.length I) (Qi _ _ 2 _ _ (.string ⟨s.toArray⟩) (Qi _ _ 1 _ _ (.int .i64 n) (Qi _ _ 0 _ _ (.int .i64 k) Y.o.res))))
 have q0:=Qk _ _ 0 _ _ _ Z;have q1:=Qk _ _ 1 _ _ _ Z;have q2:=Qk _ _ 2 _ _ _ Z;have q3:=Qk _ _ 3 _ _ _ Z;have q4:=Qk _ _ 4 _ _ _ Z
 simp only [List.setIfInBounds_toArray,List.set_cons_zero,List.set_cons_succ,Qf,Qg,Qh] at q0 q1 q2 q3 q4
 obtain ⟨V,aI,G,D⟩:=Y.o.kids
 rw [Qu (by rw [HC.o.len];exact Q9 _),List.append_nil] at G
 rw [Zj (Q9 _)] at D
 have bC:Hid (Own Zc 36 (λb=>w+2<=b) (w+2) wr (.slice kp ks.length A) ks V):=Qq ⟨G,D⟩
 clear aI G D
 obtain ⟨WF,aC⟩:=eX ((((((wr.setCell ⟨w+1,0,none⟩ (.int .i64 k)).setCell ⟨w+1,1,none⟩ (.int .i64 n)).setCell ⟨w+1,2,none⟩ (.string ⟨s.toArray⟩)).setCell ⟨w+1,3,none⟩ (.slice np ns.length I)).setCell ⟨w+1,4,none⟩ (.slice kp ks.length A)))
 rw [aC] at q0 q1 q2 q3 q4 |-
 have cB:=Qq aC
 clear Z aC c0 c1 c2 c3 c4 r0 r1 r2 r3 r4 cE cF cG cH cI
 refine Q7 (v:=.agg #[k,n,s,.slice np ns.length I,.slice kp ks.length A]) (by simp [results,results125,go_sem,q0,q1,q2,q3,q4]) rfl ⟨np,I,kp,A,V,rfl,?_,?_,?_⟩
 all_goals rw [<- cB.o]
 ·refine bC.o.move Ia (λb hb h=>?_) |>.wide (λb _ h=>?_)
  ·exact Vj (by
    rcases h with h | h
    ·have:w.heap.size+2<=b:=h
     omega
    have:=(bC.o.row.lt b h).1
    omega)
  have:w.heap.size+2<=b:=h
  show w<=b
  omega
 ·exact ((((Y.o.below.setCell (p:=⟨w+1,0,none⟩) (Nat.le_succ _) _).setCell (p:=⟨w+1,1,none⟩) (Nat.le_succ _) _).setCell (p:=⟨w+1,2,none⟩) (Nat.le_succ _) _).setCell (p:=⟨w+1,3,none⟩) (Nat.le_succ _) _).setCell (p:=⟨w+1,4,none⟩) (Nat.le_succ _) _
 refine (Y.o.names.frame (λb hS aA=>?_)).mono (λb _ hS=>?_)
 ·exact Vj (by have:w.heap.size+2<=b:=hS.1;omega)
 have:w.heap.size+2<=b:=hS.1
 exact ⟨Ia,hS.2⟩
def Pm (o:Bs) (b:Bool):Prop:=(o=[97,110,100]/\b=true)\/(o=[111,114]/\b=false)
theorem op_not (g:Nat) (lb:Array Value) (eg:∀ args w,(callFunc g args).run prog w=.ok (.enter g args) w) (S0:Nat->Prop) (u:Val) (w:World) (hS0:∀ b,S0 b->b≠w.heap.size) (hk:u.kind=2) (h0:∀ W,Below w w W->w<W.heap.size->Calls prog g (#[.int .i64 0]++lb) W (Xw S0 W (some u))):
  Calls prog 140 #[.string ⟨#[110,111,116]⟩,.func (.func g) #[] lb,.int .i64 1] w (Xw S0 w (some (Vq (!(u.n==1))))):=by
 have H0:=Qq h0;have aA:=Qq hS0
 have HT:=Qq (λcu W (T:Z9 S0 W cu u)=>Uo S0 u cu W T hk)
 have D:=Qq (U8 (!(u.n==1)) S0)
 obtain ⟨r,J⟩:=eX (Vq (!(u.n==1)))
 rw [J] at D |-
 obtain ⟨b,hb⟩:=eX ((u.n==1))
 simp only [hb] at HT D
 clear h0 J hS0 hk hb
 go_enter func140,ntmps140
 go_wp2_with fail
 refine (H0.o _ (Zg _ _) Ib).mono ?_
 rintro e w1 ⟨cu,rfl,T,G⟩
 obtain ⟨a3,aE,a4,aF,A,_⟩:=Z9.cells T
 simp only [Il] at A
 subst A
 obtain ⟨N,U,HU⟩:=Im ((G.block w Ib).trans (Qw w _)) ((Zg w _).n G) T
 clear T G
 have aB:=Qq (HT.o _ w1 HU.o)
 go_wp2_with (first
  | (go_at_call 135;refine (D.o _).mono ?_;rintro e w6 ⟨cr,rfl,M,I⟩;obtain ⟨q3,l3,q4,l4,A,_⟩:=Z9.cells M;simp only [Il] at A;subst A;have Y:=Qq I;have aC:=Qq M;have J:=(I.block w (Z8 O.o)).trans O.o;have Z:=Qq J;have fz:=λj=>Qn _ _ j _ _ J;obtain ⟨f0,f1,f2,f3,f4⟩:=Iw fz;have rr:=λj=>Qk _ _ j _ _ _ J;obtain ⟨r0,r1,r2,r3,r4⟩:=Iw rr;simp only [Qf,Qg,Qh] at r0 r1 r2 r3 r4;clear fz rr J M I)
  | (go_at_call 90;refine aB.o.mono ?_;rintro e w5 ⟨rfl,hb⟩;have O:=Qq ((hb.block w (Z8 N.o)).trans N.o);have V:=Qq (U.o.n hb);clear hb))
 show bodyPost _ _ _ _ _ (AI w6 w r q3 l3 q4 l4)
 refine Q7 (v:=.agg (Is r q3 l3 q4 l4)) (by simp [results,results140,go_sem,Ze Z.o]) rfl ⟨_,rfl,?_,Zd (V.o.n Y.o) (Q9 _)⟩
 exact Z9.move aC.o (λb hb _=>Zf (by have:=aA.o b hb;omega)) Ij
theorem Gs (g:Nat) (lb:Array Value) (eg:∀ args w,(callFunc g args).run prog w=.ok (.enter g args) w) (S0:Nat->Prop) (o:Bs) (b:Bool) (u:Val) (w:World) (ho:Pm o b) (hS0:∀ b,S0 b->b≠w.heap.size) (hk:u.kind=2) (hn:(u.n==1)=!b) (h0:∀ W,Below w w W->w<W.heap.size->Calls prog g (#[.int .i64 0]++lb) W (Xw S0 W (some u))):
  Calls prog 140 #[o,.func (.func g) #[] lb,.int .i64 2] w (Xw S0 w (some (Vq (!b)))):=by
 obtain ⟨H0,HM,aA⟩:=Im h0 Xf hS0
 have HT:=Qq (λcu W (T:Z9 S0 W cu u)=>Uo S0 u cu W T hk)
 rw [hn] at HT
 have M:=Qq (U8 (!b) S0)
 obtain ⟨r,I⟩:=eX (Vq (!b))
 rw [I] at M |-
 clear h0 I hS0 hk hn
 rcases ho with ⟨rfl,rfl⟩ | ⟨rfl,rfl⟩
 all_goals
  go_enter func140,ntmps140
  go_wp2_with (go_at_call 134;refine (HM.o _).mono ?_;rintro e w' ⟨rfl,rfl⟩)
  refine (H0.o _ (Zg _ _) Ib).mono ?_
  rintro e w1 ⟨cu,rfl,T,D⟩
  obtain ⟨a3,aE,a4,aF,A,_⟩:=Z9.cells T
  simp only [Il] at A
  subst A
  obtain ⟨N,U,HU⟩:=Im ((D.block w Ib).trans (Qw w _)) ((Zg w _).n D) T
  clear T D
  have aB:=Qq (HT.o _ w1 HU.o)
  go_wp2_with (first
   | (go_at_call 135;refine (M.o _).mono ?_;rintro e w6 ⟨cr,rfl,J,G⟩;obtain ⟨q3,l3,q4,l4,A,_⟩:=Z9.cells J;simp only [Il] at A;subst A;have Y:=Qq G;have aC:=Qq J;have I:=(G.block w (Z8 O.o)).trans O.o;have Z:=Qq I;have fz:=λj=>Qn _ _ j _ _ I;obtain ⟨f0,f1,f2,f3,f4⟩:=Iw fz;have rr:=λj=>Qk _ _ j _ _ _ I;obtain ⟨r0,r1,r2,r3,r4⟩:=Iw rr;simp only [Qf,Qg,Qh] at r0 r1 r2 r3 r4;clear fz rr I J G)
   | (go_at_call 90;refine aB.o.mono ?_;rintro e w5 ⟨rfl,hb⟩;have O:=Qq ((hb.block w (Z8 N.o)).trans N.o);have V:=Qq (U.o.n hb);clear hb))
  show bodyPost _ _ _ _ _ (AI w6 w r q3 l3 q4 l4)
  refine Q7 (v:=.agg (Is r q3 l3 q4 l4)) (by simp [results,results140,go_sem,Ze Z.o]) rfl ⟨_,rfl,?_,Zd (V.o.n Y.o) (Q9 _)⟩
  exact Z9.move aC.o (λb hb _=>Zf (by have:=aA.o b hb;omega)) Ij
theorem Wb (g:Nat) (lb:Array Value) (eg:∀ args w,(callFunc g args).run prog w=.ok (.enter g args) w) (S0:Nat->Prop) (o:Bs) (b:Bool) (u:Val) (w:World) (ho:Pm o b) (hk:u.kind=2) (hn:(u.n==1)=b) (h0:∀ W,Below w w W->w<W.heap.size->Calls prog g (#[.int .i64 0]++lb) W (Xw S0 W (some u))) (h1:∀ W,Below w w W->w<W.heap.size->Calls prog g (#[.int .i64 1]++lb) W (Xw S0 W none)):
  Calls prog 140 #[o,.func (.func g) #[] lb,.int .i64 2] w (Ep w):=by
 obtain ⟨H0,H1,HM⟩:=Im h0 h1 Xf
 have HT:=Qq (λT W (J:Z9 S0 W T u)=>Uo S0 u T W J hk)
 rw [hn] at HT
 clear h0 h1 hk hn
 rcases ho with ⟨rfl,rfl⟩ | ⟨rfl,rfl⟩
 all_goals
  go_enter func140,ntmps140
  go_wp2_with (go_at_call 134;refine (HM.o _).mono ?_;rintro e w' ⟨rfl,rfl⟩)
  refine (H0.o _ (Zg _ _) Ib).mono ?_
  rintro e w1 ⟨T,rfl,J,A⟩
  obtain ⟨a3,U,a4,V,I,_⟩:=Z9.cells J
  simp only [Il] at I
  subst I
  obtain ⟨G,M,HU⟩:=Im ((A.block w Ib).trans (Qw w _)) ((Zg w _).n A) J
  clear J A
  have O:=Qq (HT.o _ w1 HU.o)
  go_wp2_with (go_at_call 90;refine O.o.mono ?_;rintro e w3 ⟨rfl,hb⟩;have D:=Qq (M.o.n hb);have N:=Qq ((hb.block w (Z8 G.o)).trans G.o);clear hb)
  refine (H1.o _ D.o (Z8 N.o)).mono ?_
  rintro e w4 ⟨rfl,hb⟩
  exact ⟨rfl,rfl,D.o.n hb⟩
theorem op_log (g:Nat) (lb:Array Value) (eg:∀ args w,(callFunc g args).run prog w=.ok (.enter g args) w) (S0:Nat->Prop) (o:Bs) (b:Bool) (u v:Val) (w:World) (ho:Pm o b) (hS0:∀ b,S0 b->b≠w.heap.size) (hk:u.kind=2) (hn:(u.n==1)=b) (hk2:v.kind=2) (h0:∀ W,Below w w W->w<W.heap.size->Calls prog g (#[.int .i64 0]++lb) W (Xw S0 W (some u))) (h1:∀ W,Below w w W->w<W.heap.size->Calls prog g (#[.int .i64 1]++lb) W (Xw S0 W (some v))):
  Calls prog 140 #[o,.func (.func g) #[] lb,.int .i64 2] w (Xw S0 w (some (Vq (v.n==1)))):=by
 obtain ⟨H0,H1,HM⟩:=Im h0 h1 Xf
 have HT:=Qq (λU W (T:Z9 S0 W U u)=>Uo S0 u U W T hk)
 rw [hn] at HT
 have aH:=Qq hS0
 have aB:=Qq (λU W (T:Z9 S0 W U v)=>Uo S0 v U W T hk2)
 have D:=Qq (U8 (v.n==1) S0)
 obtain ⟨r,N⟩:=eX (Vq (v.n==1))
 rw [N] at D |-
 obtain ⟨d,hd⟩:=eX ((v.n==1))
 simp only [hd] at aB D
 clear h0 h1 hk hn hk2 N hd hS0
 rcases ho with ⟨rfl,rfl⟩ | ⟨rfl,rfl⟩
 all_goals
  go_enter func140,ntmps140
  go_wp2_with (go_at_call 134;refine (HM.o _).mono ?_;rintro e w' ⟨rfl,rfl⟩)
  refine (H0.o _ (Zg _ _) Ib).mono ?_
  rintro e w1 ⟨U,rfl,T,I⟩
  obtain ⟨a3,aM,a4,aN,A,_⟩:=Z9.cells T
  simp only [Il] at A
  subst A
  obtain ⟨Y,aC,HU⟩:=Im ((I.block w Ib).trans (Qw w _)) ((Zg w _).n I) T
  clear T I
  have aI:=Qq (HT.o _ w1 HU.o)
  go_wp2_with (go_at_call 90;refine aI.o.mono ?_;rintro e w3 ⟨rfl,hb⟩;have V:=Qq (aC.o.n hb);have G:=Qq ((hb.block w (Z8 Y.o)).trans Y.o);clear hb)
  refine (H1.o _ V.o (Z8 G.o)).mono ?_
  rintro e w4 ⟨cv,rfl,hv,J⟩
  obtain ⟨b3,aO,b4,aP,A,_⟩:=Z9.cells hv
  simp only [Il] at A
  subst A
  obtain ⟨aJ,aD,Z⟩:=Im (aB.o _ w4 hv) (V.o.n J) ((J.block w (Z8 G.o)).trans G.o)
  clear hv J
  go_wp2_with (first
   | (go_at_call 135;refine (D.o _).mono ?_;rintro e w6 ⟨cr,rfl,O,M⟩;obtain ⟨q3,l3,q4,l4,A,_⟩:=Z9.cells O;simp only [Il] at A;subst A;have aF:=Qq M;have aK:=Qq O;have N:=(M.block w (Z8 aA.o)).trans aA.o;have aG:=Qq N;have fz:=λj=>Qn _ _ j _ _ N;obtain ⟨f0,f1,f2,f3,f4⟩:=Iw fz;have rr:=λj=>Qk _ _ j _ _ _ N;obtain ⟨r0,r1,r2,r3,r4⟩:=Iw rr;simp only [Qf,Qg,Qh] at r0 r1 r2 r3 r4;clear fz rr N O M)
   | (go_at_call 90;refine aJ.o.mono ?_;rintro e w5 ⟨rfl,hb⟩;have aA:=Qq ((hb.block w (Z8 Z.o)).trans Z.o);have aE:=Qq (aD.o.n hb);clear hb))
  show bodyPost _ _ _ _ _ (AI w6 w r q3 l3 q4 l4)
  refine Q7 (v:=.agg (Is r q3 l3 q4 l4)) (by simp [results,results140,go_sem,Ze aG.o]) rfl ⟨_,rfl,?_,Zd (aE.o.n aF.o) (Q9 _)⟩
  exact Z9.move aK.o (λb hb _=>Zf (by have:=aH.o b hb;omega)) Ij
end Go.Proofs.YtdpibdpbgokmoaaGreatDoor
