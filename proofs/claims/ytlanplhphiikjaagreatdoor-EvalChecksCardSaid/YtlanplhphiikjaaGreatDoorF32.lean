import Derived.Test.YtlanplhphiikjaaGreatDoorF31
set_option maxRecDepth 100000
set_option maxHeartbeats 400000000
namespace Go.Proofs.YtlanplhphiikjaaGreatDoor
open Go.RowKit Go.Shelf Go.Lib Tryz
theorem colZero (S:Nat->Prop) (w:World):Yy.R S w [Oo,On,Oo,On,Ot,Ot] ⟨[],.mk 0 [] 0 [] []⟩:=
 ⟨_,rfl,Od,Ub (s:=[]) Od (Sl.nil _ _ _) (Sl.nil _ _ _)⟩
def Xy (a b:Col):Int:=Y7 a.name b.name
theorem Mt (S:Nat->Prop):CmpOn prog 115 Yy S Xy:=fun W x y cx cy hx hy=>row1_any S x y cx cy W hx hy
theorem insCol (S:Nat->Prop) (B:Nat) (w:World) (q cap:Nat) (xs:List Col) (css:List (List Value)) (hO:Own Yy 79 S B w (.slice (some ⟨q,0,none⟩) xs.length cap) xs css)
  (ho:Srt Xy xs) (hl:xs.length<=1000000) (a b:Nat) (hab:a<=b) (hb:b<=xs.length):
  Calls prog 230 #[Ol q 0 xs.length cap,a,b,.func (.func 115) #[] #[]] w fun e w'=>e=.returned (.tuple #[])/\Gr w w':=
 O7 Tryz.insCol Yy Of 79 isAgg79 sizeOf79 Bh Xy 115 (enters_of func115 Og rfl) S B w q cap xs css hO _ _ (colZero _ _) (Mt _) ho hl a b hab hb
theorem swoCol:Sort.SWO (fun x y:Col=>decide (Xy x y<0)):=
 ⟨fun x=>swoV.1 (Vr x.name),fun x y z D G=>swoV.2 (Vr x.name) (Vr y.name) (Vr z.name) D G,fun x y z D G=>swoV.3 (Vr x.name) (Vr y.name) (Vr z.name) D G⟩
instance:Inhabited Col:=⟨⟨[],.mk 0 [] 0 [] []⟩⟩
def Bm (S:Nat->Prop) (B:Nat) (w:World) (v:Value) (xs:List Col) (e:Ending) (w':World):Prop:=
 e=.returned (.tuple #[])/\∃ ys css',ys=Xl Xy xs/\ys.Perm xs/\Own Yy 79 S B w' v ys css'/\Below B w w'/\w<=w'.heap.size
theorem insC (S:Nat->Prop) (B:Nat) (w:World) (q cap:Nat) (xs:List Col) (css:List (List Value)) (hO:Own Yy 79 S B w (.slice (some ⟨q,0,none⟩) xs.length cap) xs css) (hne:xs≠[]) (hl:xs.length<=1000000):
  Calls prog 230 #[Ol q 0 xs.length cap,On,xs.length,.func (.func 115) #[] #[]] w (Bm S B w (.slice (some ⟨q,0,none⟩) xs.length cap) xs):=by
 refine (insGen Tryz.insCol Yy Of 79 isAgg79 sizeOf79 Bh Xy 115 (enters_of func115 Og rfl) S B w q cap xs css hO hne (Mt _) swoCol hl).mono ?_
 rintro e w' ⟨rfl,ys,D,hy,hp,hs,G,hb,hz,_⟩
 exact ⟨rfl,ys,D,hy,hp,G,hb,hz⟩
theorem stableC (S:Nat->Prop) (B:Nat) (w:World) (q cap:Nat) (xs:List Col) (css:List (List Value)) (hO:Own Yy 79 S B w (.slice (some ⟨q,0,none⟩) xs.length cap) xs css) (hne:xs≠[]) (hl:xs.length<=19):
  Calls prog 114 #[Ol q 0 xs.length cap,.func (.func 115) #[] #[]] w (Bm S B w (.slice (some ⟨q,0,none⟩) xs.length cap) xs):=by
 have L:=Qq (insC S B w q cap xs css hO hne Oa)
 clear hO hne
 generalize hR:Bm S B w (.slice (some ⟨q,0,none⟩) xs.length cap) xs=R at L |-
 have I:∀ e w',R e w'->e=.returned (.tuple #[]):=by rw [<- hR];rintro e w' ⟨h,_⟩;exact h
 clear hR
 generalize xs.length=n at L hl |-
 have HR:=Qq I
 clear I
 have c1:¬ (20:Int)<=(n:Int):=Oa
 have c2:¬ (20:Int)<(n:Int):=Oa
 have J:Calls prog 172 #[Ol q 0 n cap,n,.func (.func 115) #[] #[]] w R:=by
  go_enter func172,ntmps172
  go_wp2_with fail
  go_loopw [7,8] (fun a b wr=>a=.int .i64 0/\b=.int .i64 20/\wr=w) (fun _ _ _=>0)
  case atStart=>exact ⟨rfl,rfl,rfl⟩
  obtain ⟨rfl,rfl,G⟩:=hrel
  subst G
  go_wp2_with (go_at_call 230;refine L.out.mono ?_;intro e w1 D;obtain rfl:=HR.out _ _ D)
  have M:=Qq D
  clear D
  go_loopw [6] (fun s wr=>s=.int .i64 20/\wr=w1) (fun _ _=>0)
  case atStart=>exact ⟨rfl,rfl⟩
  obtain ⟨rfl,G⟩:=hrel
  subst G
  go_wp2_with fail
  go_end0
  exact M.out
 have HS:=Qq J
 clear J
 go_enter func114,ntmps114
 go_wp2_with (go_at_call 172;refine HS.out.mono ?_;intro e w' G;obtain rfl:=HR.out _ _ G)
 go_end0
 exact G
theorem rowG_any (S0:Nat->Prop) (t:Tbl) (cs:List Value) (w:World) (h0:Zg.R S0 w cs t) (hl:t.columns.length<=19) (hne:t.columns≠[]):
  Calls prog 61 #[cs] w (RowIs w ⟨t.name,Xl Xy t.columns,t.key,t.refs,t.check⟩):=by
 have h:Zg.R (fun b=>b<w) w cs t:=Zg.mono h0 (fun b hb _=>hb)
 obtain ⟨fL,fK,fX,fW,fZ,fY,k0,s1,n0,s2,p1,n1,c1,p2,n2,c2,p3,n3,c3,a0,z0,rfl,bR,aL,_,_,_⟩:=Zr h
 unfold tcs
 have HC:=Qq aL;have cA:=Qq hne
 obtain ⟨i9,j1,j2,j3,j4⟩:=Y3 (P:=prog) (t:=9) (z:=.string ⟨#[]⟩) (n:=1) (b:=16) Og
 obtain ⟨eR,l1,l2,l3,l4⟩:=Y3 (P:=prog) (t:=65) (z:=.agg zY) (n:=5) (b:=80) Og
 obtain ⟨HJ,dL,dM,dN,HL,dQ,dR,dS⟩:=P2 j1 j2 j3 j4 l1 l2 l3 l4
 clear h h0 aL hne j1 j2 j3 j4 l1 l2 l3 l4
 go_enter func61,ntmps61
 go_wp2_with fail
 refine (Hz _ _ t.columns _ (HC.out.below (Zl _ _ _))).mono ?_
 rintro e w1 ⟨cp,aE,eD,rfl,cR,aS⟩
 have aM:=(aS.block (w+1) Od).trans (Q1 _ _ _)
 obtain ⟨dU,dG,bH⟩:=Px aM ((Zl w _ _).thn aS) cR
 have fH:w.heap.size+2<=w1.heap.size:=by have:=aS.size;simpa using this
 clear aM aS cR
 go_wp2_with fail
 obtain ⟨sq,rfl⟩:∃ q,cp=some ⟨q,0,none⟩:=by
  obtain ⟨q,fD,hv,_⟩:=bH.out.row.form (List.length_pos_iff.2 cA.out)
  simp only [Ql] at hv
  exact ⟨q,hv.1⟩
 refine (stableC _ _ _ sq aE t.columns eD bH.out cA.out hl).mono ?_
 rintro e w2 ⟨rfl,ys,fF,cT,cS,cK,cN,fV⟩
 have bT:ys.length=t.columns.length:=cS.length_eq
 have bX:=Qq (show Below (w+2) w1 w2 from by simpa using cN)
 have cB:=Qq cK
 have aZ:w.heap.size+2<=w2.heap.size:=Oa
 obtain ⟨cp,cO⟩:∃ cp:Option Addr,some (⟨sq,0,none⟩:Addr)=cp:=⟨_,rfl⟩
 rw [<- bT,cO] at cB |-
 rw [<- bT] at hl
 have dX:=Qq cT
 clear cN cK cS cO bH cT bT
 go_wp2_with fail
 obtain ⟨W3,aR⟩:=eX (w2.alloc (.cells #[.int .i64 5,Oo,On,Ot,Ot] 65))
 rw [aR]
 have cJ:RowMid w w2 cp aE ys 0 none 0 none 0 W3:=by
  have bN:=eqB aR (Zb _ _)
  refine ⟨(dG.out.trans (bX.out.mono Oa)).thn bN,aZ,by rw [<- aR];exact Qw _ _,?_,⟨[],Own.nil _ _ _ _ _⟩,⟨[],Own.nil _ _ _ _ _⟩,?_⟩
  ·rw [bN.block _ Oa,bX.out.block _ Oa];exact dU.out
  refine ((cB.out.sl Oa (S':=fun b=>b≠w+1) (fun b hb=>?_) (fun b _ hb=>?_)).mono (S':=fun b=>b<w2/\b≠w+1) (fun b hb h=>⟨hb,h⟩)).below bN
  ·have h2:w.heap.size+2<=b:=by simpa using hb
   omega
  have h2:b<w.heap.size:=hb
  omega
 have bZ:=Qq cJ
 clear cJ aR
 obtain ⟨n,hn⟩:=eX (ys.length)
 rw [hn] at hl |-
 have HN:=Qq hn
 clear hn
 generalize hG:w2.heap.size=G at bZ aZ |-
 clear hG
 go_loopw [15] (fun i wr=>∃ (k:Nat) (np:Option Addr) (J:Nat) (kp:Option Addr) (D:Nat),k<=n/\i=.int .i64 k/\RowMid w G cp aE ys k np J kp D wr) (fun i _=>n - (intOf i).toNat)
 case atStart=>exact ⟨0,none,0,none,0,Q3 _,rfl,bZ.out⟩
 obtain ⟨k,np,J,kp,D,fU,rfl,U⟩:=hrel
 have O:=Qq U
 have fr:=fun j=>Qg _ _ j _ _ U.box
 have c0:=rA0 U.box;have dY:=rA1 U.box;have dZ:=rA2 U.box;have eB:=rA3 U.box;have c4:=rA4 U.box
 have cI:=Z3 U.box
 by_cases bQ:k<n
 ·have fS:(0:Int)<=(k:Int):=Oa
  have fT:(k:Int)<(n:Int):=Oa
  obtain ⟨x,hx⟩:∃ x,ys[k]?=some x:=⟨_,Qx (by rw [HN.out];exact bQ)⟩
  obtain ⟨cb,fE,cc,rfl,fR,fG,-,eO,V⟩:=U.cols.elem hx
  obtain ⟨tc,eK,eQ,bS⟩:=eO
  obtain ⟨m1,m2,m3,m4,m5,m6,m7,m8,m9,rfl⟩:=bS.cells
  subst eK
  have d0:=V 0 _ rfl;have d1:=V 1 _ rfl;have d2:=V 2 _ rfl;have d3:=V 3 _ rfl;have d4:=V 4 _ rfl;have d5:=V 5 _ rfl
  simp only [show Yy.k=6 from rfl,Nat.add_zero] at d0 d1 d2 d3 d4 d5
  unfold sv at d0
  have HX:=Qq hx;have dV:=Qq bS
  clear hx V bS c0 dY dZ eB c4 fr U
  go_upto_region 7 with fail
  obtain ⟨W4,aI⟩:=eX (wr.alloc (.cells #[x.name,m1,.string m2,m3,.slice m4 m5 m6,.slice m7 m8 m9] 79))
  rw [aI]
  have aJ:=eqB aI (Zb _ _)
  have bA:W4=wr.heap.size+1:=by rw [<- aI];simp
  have bM:=eqH (b:=wr.heap.size) aI (Qw _ _)
  obtain ⟨cU,aH⟩:=O.out.names
  obtain ⟨eT,aG⟩:=O.out.kids
  have bR:((ys.take k).map Col.name).length=k:=by rw [Z2,Qf,HN.out];omega
  have cP:((ys.take k).map Col.type).length=k:=by rw [Z2,Qf,HN.out];omega
  have aF:=(aJ.block G cI).trans O.out.box
  have c3:=Qk _ _ 3 _ _ _ aF;have c4:=Qk _ _ 4 _ _ _ aF;have f3:=fA 3 aF
  have q0:=Qk _ _ 0 _ _ _ bM
  simp only [Qa,Qb,Qc] at c3 c4 q0
  have aV:=aH.below aJ
  have aT:=aG.below aJ
  obtain ⟨cG,dW,dH,T,cE,fI,dT,dP⟩:=P2 aJ bM aF bA aV aT bR cP
  clear aI aJ bM aF aH aG aV aT bR cP d0 d1 d2 d3 d4 d5 bA
  go_upto_region 8 with (at_builtin;refine Yc (r:=Zi) Of rfl (.tmp 20) (.tmp 23) _ rfl 9 i9 (.string ⟨#[]⟩) 16 underlying46 HJ.out dL.out dM.out dN.out rfl Oa (fun b=>b<G/\b≠w+1) (G+1) W4 (.slice np k J) ((ys.take k).map Col.name) cU [x.name] x.name rfl cE.out rfl ⟨rfl,eQ⟩ (by simp [Value.oneCell']) k dT.out Oa (Ob T.out) ?_;intro p5 M css5 w5 cL bK;have cC:=Qq cL;have aN:=Qq bK;have aO:=(bK.other G (Ob T.out) (fun e=>by have:=(cE.out.row.lt G e.symm).1;omega)).trans dH.out;have eF:=fA 3 aO;have eC:=rA3 aO;have dI:=Qq aO;clear cL bK aO)
  obtain ⟨W6,Z⟩:=eX (w5.setCell ⟨G,3,none⟩ (.slice p5 (k+1) M))
  rw [Z]
  have Y:∀ b,b≠G->W6.heap[b]?=w5.heap[b]?:=by intro b hb;rw [<- Z];exact Z4 hb
  have bC:W6.heap.size=w5.heap.size:=by rw [<- Z];simp [World.setCell]
  have aP:W6.heap[G]?=some (.cells #[.int .i64 5,Oo,On,.slice p5 (k+1) M,.slice kp k D] 65 (0,0)):=by rw [<- Z,Qd _ _ _ _ _ _ dI.out];rfl
  have aY:∀ g,(Value.slice np k J).ownBlock=some g->wr.heap.size≠g:=fun g hg e=>by
   obtain ⟨_,h⟩:=O.out.names
   have:=(h.row.lt g hg).2
   omega
  have aA:W6.heap[wr.heap.size]?=some (.cells #[x.name,m1,.string m2,m3,.slice m4 m5 m6,.slice m7 m8 m9] 79 (0,0)):=by
   rw [Y _ Oa,aN.out.other _ (Ob T.out) (fun e=>aY _ e.symm rfl)];exact dW.out
  have keep:∀ b,b<wr.heap.size->some b≠(Value.slice np k J).ownBlock->b≠G->W6.heap[b]?=wr.heap[b]?:=fun b hb hne bO=>by
   rw [Y b bO,aN.out.other b (Ob T.out) hne];exact cG.out.block b hb
  obtain ⟨_,I⟩:=O.out.names
  obtain ⟨bE,N⟩:=O.out.kids
  have aU:Own Vf 65 (fun b=>b<G/\b≠w+1) (G+1) W6 (.slice kp k D) ((ys.take k).map Col.type) bE:=N.move (Q4 _) (fun b hb h=>by
   rcases h with h | h
   ·exact keep b hb (fun e=>by have:=(I.row.lt b e.symm).1;omega) Oa
   exact keep b hb (fun e=>Xb N.row I.row Of h e.symm) (by have:=(N.row.lt b h).1;omega))
  have aW:Own Zi 9 (fun b=>b<G/\b≠w+1) (G+1) W6 (.slice p5 (k+1) M) ((ys.take k).map Col.name++[x.name]) css5:=cC.out.move (Q4 _) (fun b _ h=>Y b (by
   rcases h with h | h
   ·omega
   have:=(cC.out.row.lt b h).1;omega))
  have aX:Vf.R (But (fun b=>b<G/\b≠w+1) (.slice kp k D)) W6 [m1,.string m2,m3,.slice m4 m5 m6,.slice m7 m8 m9] x.type:=by
   refine Y6.move dV.out (fun b hb bQ=>keep b bQ (fun e=>by have:=(I.row.lt b e.symm).1;omega) Oa) (fun b _ hb=>⟨hb,fun e=>?_⟩)
   have:=(N.row.lt b e.symm).1
   omega
  have bB:=aN.out.size
  have g4:=Qk _ _ 4 _ _ _ aP;have eG:=fA 4 aP
  have y1:=Qk _ _ 1 _ _ _ aA;have y2:=Qk _ _ 2 _ _ _ aA;have y3:=Qk _ _ 3 _ _ _ aA;have y4:=Qk _ _ 4 _ _ _ aA;have y5:=Qk _ _ 5 _ _ _ aA
  simp only [Qa,Qb,Qc] at g4 y1 y2 y3 y4 y5
  obtain ⟨dO,L,aC,cF,dJ,bJ,bI⟩:=P1 keep aU aW aX aP bC bB
  have aK:Below w w W6:=O.out.below.trans (by
   have h1:=cG.out.mono O.out.below.size
   have h2:=(aN.out.below.mono (show w<=G+1 by omega))
   have h3:=(h1.trans h2).setCell (p:=⟨G,3,none⟩) (show w<=G by omega) (.slice p5 (k+1) M)
   rwa [Z] at h3)
  have bG:=Qq aK
  clear Z Y bC aP aY aA keep I N aU aW aX bB c3 c4 f3 q0 eF eC aK
  go_wp2_with (at_builtin;refine Yc (r:=Vf) Of rfl (.tmp 27) (.tmp 30) _ rfl 65 eR (.agg zY) 80 underlying63 HL.out dQ.out dR.out dS.out rfl Oa (fun b=>b<G/\b≠w+1) (G+1) W6 (.slice kp k D) ((ys.take k).map Col.type) bE [m1,.string m2,m3,.slice m4 m5 m6,.slice m7 m8 m9] x.type rfl L.out rfl cF.out (by simp [Value.oneCell']) k dP.out Oa (by have:=bJ.out;have:=bI.out;have:=T.out;omega) ?_;intro p7 aD css7 w7 cM bL;have cD:=Qq cM;have bY:=Qq bL;have aQ:=(bL.other G (by have:=bJ.out;have:=bI.out;have:=T.out;omega) (fun e=>by have:=(L.out.row.lt G e.symm).1;omega)).trans dJ.out;have fM:=fA 4 aQ;have fJ:=rA4 aQ;have dK:=Qq aQ;clear cM bL aQ)
  go_roundw
  case measure=>simp [intOf];omega
  case rel=>
   have eN:(ys.take (k+1)).map Col.name=(ys.take k).map Col.name++[x.name]:=by
    obtain ⟨bP,rfl⟩:=Qj HX.out
    rw [Qs bP,List.map_append];rfl
   have eM:(ys.take (k+1)).map Col.type=(ys.take k).map Col.type++[x.type]:=by
    obtain ⟨bP,rfl⟩:=Qj HX.out
    rw [Qs bP,List.map_append];rfl
   have cH:=O.out.hG
   obtain ⟨_,I⟩:=O.out.names
   have e6:=bJ.out
   have e5:=bI.out
   have e4:=T.out
   have k7:∀ b,b<W6.heap.size->some b≠(Value.slice kp k D).ownBlock->b≠G->(w7.setCell ⟨G,4,none⟩ (.slice p7 (k+1) aD)).heap[b]?=W6.heap[b]?:=fun b hb hne bO=>by
    rw [Z4 bO,bY.out.other b hb hne]
   have bD:∀ b,b<G->(w7.setCell ⟨G,4,none⟩ (.slice p7 (k+1) aD)).heap[b]?=wr.heap[b]?:=fun b hb=>by
    rw [k7 b Oa (fun e=>by have:=(L.out.row.lt b e.symm).1;omega) Oa,dO.out b Oa (fun e=>by have:=(I.row.lt b e.symm).1;omega) Oa]
   refine ⟨k+1,p5,M,p7,aD,Oa,by go_num,⟨(bG.out.trans (bY.out.below.mono Oa)).setCell (p:=⟨G,4,none⟩) (show w<=G by omega) _,cH,?_,?_,⟨css5,?_⟩,⟨css7,?_⟩,?_⟩⟩
   ·rw [Qd _ _ _ _ _ _ dK.out];rfl
   ·rw [bD _ Oa];exact O.out.res
   ·rw [eN]
    refine aC.out.move (Q4 _) (fun b hb h=>?_)
    rcases h with h | h
    ·have h':b<G:=h.1
     exact k7 b hb (fun e=>by have:=(L.out.row.lt b e.symm).1;omega) Oa
    have h':=(aC.out.row.lt b h).1
    exact k7 b hb (fun e=>Xb aC.out.row L.out.row Of h e.symm) Oa
   ·rw [eM]
    refine cD.out.move (Q4 _) (fun b _ h=>Z4 ?_)
    rcases h with h | h
    ·have h':b<G:=h.1
     show b≠G
     omega
    have h':=(cD.out.row.lt b h).1
    show b≠G
    omega
   exact O.out.cols.frame (fun b hb _=>bD b hb.1)
 have cQ:k=n:=Oa
 subst cQ
 have r0:=Qk _ _ 0 _ _ _ U.res
 have fz:=fun j=>Qg _ _ j _ _ U.res
 have rr:=fun j=>Qk _ _ j _ _ _ U.res
 obtain ⟨fN,fO,fP,fQ,eG⟩:=P3 fz
 obtain ⟨eV,eW,eY,eZ,fB⟩:=P3 rr
 simp only [Qa,Qb,Qc] at eV eW eY eZ fB
 have cH:=U.hG
 clear fr fz rr U r0
 go_wp2_with fail
 show bodyPost _ _ _ _ _ (Zn wr _ _ _ _ _ _)
 refine Q2 (v:=.agg #[.int .i64 5,Oo,On,.slice np k J,.slice kp k D]) (by simp [results,results61,go_sem,Z8 O.out.res]) rfl ⟨_,rfl,?_,Z7 O.out.below Oa⟩
 obtain ⟨cU,aH⟩:=O.out.names
 obtain ⟨eT,aG⟩:=O.out.kids
 rw [Qp (Ob HN.out)] at aH aG
 have eJ:=dX.out
 subst eJ
 refine Ub (s:=[]) Od ?_ ?_
 ·refine ((aH.sl (by rw [Z2];have:=HN.out;omega) (S':=fun b=>b≠w+1) (fun b hb=>?_) (fun b _ hb=>hb.2)).frame (fun b hb _=>Za hb)).mono (fun _ _ _=>trivial)
  omega
 refine ((aG.sl (by rw [Z2];have:=HN.out;omega) (S':=fun b=>b≠w+1) (fun b hb=>?_) (fun b _ hb=>hb.2)).frame (fun b hb _=>Za hb)).mono (fun _ _ _=>trivial)
 omega
end Go.Proofs.YtlanplhphiikjaaGreatDoor
