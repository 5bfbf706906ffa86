import Derived.Test.YtdpibdpbgokmoaaGreatDoorA08
set_option maxRecDepth 100000
set_option maxHeartbeats 400000000
namespace Go.Proofs.YtdpibdpbgokmoaaGreatDoor
open Go.RowKit Go.Shelf Go.Lib Tryz
def TableIsX (S:Nat->Prop) (w:World) (o:Option Tbl) (e:Ending) (w':World):Prop:=∃ cs',e=.returned (.tuple #[.agg cs'.toArray,.bool o.isSome])/\Zn.R (λb=>S b\/w<=b) w' cs' (o.getD Tbl.zero)/\Below w w w'
structure TMidX (S:Nat->Prop) (w:World) (X:Nat) (x:Tbl) (cp:Option Addr) (cc:Nat) (kp:Option Addr) (kc:Nat) (rp:Option Addr) (rc:Nat) (k9:Int) (s19:ByteArray) (n9:Int) (s29:ByteArray) (p19:Option Addr) (n19 c19:Nat) (p29:Option Addr) (n29 c29:Nat) (p39:Option Addr) (n39 c39:Nat) (a9 z9:Int) (wx:World):Prop where
 below:Below w w wx
 box:wx.heap[X]?=some (.cells (AR x cp cc kp kc rp rc k9 s19 n9 s29 p19 n19 c19 p29 n29 c29 p39 n39 c39 a9 z9) 48 (0,0))
 res:wx.heap[w.heap.size+1]?=some (.cells zT 48 (0,0))
 cols:Sl Xa (λb=>(S b/\b<w)\/w+1<b) wx (.slice cp x.columns.length cc) x.columns
 key:Sl Zh (λb=>(S b/\b<w)\/w+1<b) wx (.slice kp x.key.length kc) x.key
 refs:Sl Di (λb=>(S b/\b<w)\/w+1<b) wx (.slice rp x.refs.length rc) x.refs
theorem clSX {T:Type} {r:Rd T} {E:TypeId} {S:Nat->Prop} {B X:Nat} {w:World} {v:Value} {xs:List T} {css:List (List Value)} (h:Own r E S B w v xs css) (hl:xs.length<=1000000) (hX:X<B):Sl r (λb=>S b\/X<b) w v xs:=
 h.sl hl (λb hb=>.inr Ia) (λb _ hb=>.inl hb)
theorem tmid_ofX {S:Nat->Prop} {w wC:World} {X:Nat} {x:Tbl} {cp:Option Addr} {cc:Nat} {kp:Option Addr} {kc:Nat} {rp:Option Addr} {rc:Nat} {k9:Int} {s19:ByteArray} {n9:Int} {s29:ByteArray} {p19:Option Addr} {n19 c19:Nat} {p29:Option Addr} {n29 c29:Nat} {p39:Option Addr} {n39 c39:Nat} {a9 z9:Int} {y1 y2 y3:Value}
  (hlt:w+1<X) (hb:Below w w wC)
  (hX:wC.heap[X]?=some (.cells #[x.name,y1,y2,y3,k9,.string s19,n9,.string s29,.slice p19 n19 c19,.slice p29 n29 c29,.slice p39 n39 c39,a9,z9] 48 (0,0)))
  (hR:wC.heap[w.heap.size+1]?=some (.cells zT 48 (0,0)))
  (h1:Sl Xa (λb=>(S b/\b<w)\/X<b) wC (.slice cp x.columns.length cc) x.columns)
  (h2:Sl Zh (λb=>(S b/\b<w)\/X<b) wC (.slice kp x.key.length kc) x.key)
  (h3:Sl Di (λb=>(S b/\b<w)\/X<b) wC (.slice rp x.refs.length rc) x.refs):
  TMidX S w X x cp cc kp kc rp rc k9 s19 n9 s29 p19 n19 c19 p29 n29 c29 p39 n39 c39 a9 z9 (((wC.setCell ⟨X,1,none⟩ (.slice cp x.columns.length cc)).setCell ⟨X,2,none⟩ (.slice kp x.key.length kc)).setCell ⟨X,3,none⟩ (.slice rp x.refs.length rc)):=by
 have e1:(wC.setCell ⟨X,1,none⟩ (.slice cp x.columns.length cc)).heap[X]?=some (.cells #[x.name,.slice cp x.columns.length cc,y2,y3,k9,.string s19,n9,.string s29,.slice p19 n19 c19,.slice p29 n29 c29,.slice p39 n39 c39,a9,z9] 48 (0,0)):=by rw [Qi _ _ _ _ _ _ hX];rfl
 have e2:((wC.setCell ⟨X,1,none⟩ (.slice cp x.columns.length cc)).setCell ⟨X,2,none⟩ (.slice kp x.key.length kc)).heap[X]?=some (.cells #[x.name,.slice cp x.columns.length cc,.slice kp x.key.length kc,y3,k9,.string s19,n9,.string s29,.slice p19 n19 c19,.slice p29 n29 c29,.slice p39 n39 c39,a9,z9] 48 (0,0)):=by rw [Qi _ _ _ _ _ _ e1];rfl
 have A:∀ b,b≠X->(((wC.setCell ⟨X,1,none⟩ (.slice cp x.columns.length cc)).setCell ⟨X,2,none⟩ (.slice kp x.key.length kc)).setCell ⟨X,3,none⟩ (.slice rp x.refs.length rc)).heap[b]?=wC.heap[b]?:=λb hb=>by rw [Za hb,Za hb,Za hb]
 have D:∀ {T:Type} {r:Rd T} {v:Value} {xs:List T},Sl r (λb=>(S b/\b<w)\/X<b) wC v xs->Sl r (λb=>(S b/\b<w)\/w+1<b) (((wC.setCell ⟨X,1,none⟩ (.slice cp x.columns.length cc)).setCell ⟨X,2,none⟩ (.slice kp x.key.length kc)).setCell ⟨X,3,none⟩ (.slice rp x.refs.length rc)) v xs:=by
  intro T r v xs h
  exact (h.frame (λb hb _=>A b (by rcases hb with hb | hb <;> omega))).mono (λb _ hb=>by rcases hb with hb | hb;(exact .inl hb);(exact .inr Ia))
 exact ⟨((hb.setCell (by show w<=X;omega) _).setCell (by show w<=X;omega) _).setCell (by show w<=X;omega) _,by rw [Qi _ _ _ _ _ _ e2];rfl,by rw [A _ Ia];exact hR,D h1,D h2,D h3⟩
theorem Wp (S:Nat->Prop) (s:Sc) (cs:List Value) (x0:Bs) (w:World) (hs:Ve S w cs s):
  Calls prog 126 #[cs,sv x0] w (TableIsX S w (Yw s.tables x0)):=by
 obtain ⟨uv,tv,rfl,hu,cT⟩:=hs
 have ht:=cT.up
 obtain ⟨up,uc,rfl,_⟩:=hu.len
 obtain ⟨tp,eN,rfl,_⟩:=ht.len
 have HN:=Qq (λW (hb:Below w w W)=>Qjz _ s.tables _ x0 W (ht.below hb))
 clear hu ht cT
 cases hr:Yw s.tables x0 with
 | none=>
  rw [hr] at HN
  clear hr
  unfold sv at HN |-
  go_enter func126,ntmps126
  go_wp2_with fail
  refine (HN.o _ (Zs _ _ _)).mono ?_
  rintro e w1 ⟨cN,rfl,aM,Z⟩
  obtain ⟨bQ,bO,cC,cA,cH,cF,k9,aH,n9,aI,aE,aB,N,aF,aC,O,aG,aD,U,a9,z9,aO,_⟩:=Yq aM
  simp only [AL] at aO
  subst aO
  have V:=(Z.block (w+1) Ib).trans (Q6 w _ _)
  have aX:=Qq ((Zs w _ _).n Z);have bL:=Qq V
  have aP:=Z8 V
  clear aM Z V
  go_upto_region 3 with fail
  generalize aL:w1.alloc _=w5
  have aA:=Iq aL (Zg _ _)
  have Y:=kE aA aP bL.o
  have fz:=λj=>Qn _ _ j _ _ Y
  have rr:=λj=>Qk _ _ j _ _ _ Y
  obtain ⟨f0,f1,f2,f3,f4,f5,f6,f7,f8,f9,bR,bS,bT⟩:=AX fz
  obtain ⟨r0,r1,r2,r3,r4,r5,r6,r7,r8,r9,aT,aU,aV⟩:=AX rr
  simp only [Qf,Qg,Qh] at r0 r1 r2 r3 r4 r5 r6 r7 r8 r9 aT aU aV
  have aK:=Qq (aX.o.n aA);have bM:=Qq Y
  clear fz rr Y aA aL
  go_wp2_with fail
  obtain ⟨W,hW⟩:=eX (U5 w5 (w+1) Ig Ie Ie Ie Ic Ig Ic Ig Ie Ie Ie Ic Ic)
  have q:∀ j,W.cell? ⟨w+1,j,none⟩=zT[j]?:=λj=>by rw [<- hW];exact Ut bM.o j
  have M:Below w w W:=by rw [<- hW];exact V9 aK.o Ia
  show bodyPost _ _ _ _ _ (U5 w5 (w+1) Ig Ie Ie Ie Ic Ig Ic Ig Ie Ie Ie Ic Ic)
  rw [hW]
  have aJ:=Qq M
  obtain ⟨q0,q1,q2,q3,q4,q5,q6,q7,q8,q9,aQ,aR,aS⟩:=AX q
  simp only [Qf,Qg,Qh] at q0 q1 q2 q3 q4 q5 q6 q7 q8 q9 aQ aR aS
  clear hW M q r0 r1 r2 r3 r4 r5 r6 r7 r8 r9 aT aU aV f0 f1 f2 f3 f4 f5 f6 f7 f8 f9 bR bS bT
  refine Q7 (v:=.tuple #[.agg zT,.bool false]) (by simp [results,results126,go_sem,q0,q1,q2,q3,q4,q5,q6,q7,q8,q9,aQ,aR,aS]) rfl ⟨[Ig,Ie,Ie,Ie,Ic,Ig,Ic,Ig,Ie,Ie,Ie,Ic,Ic],rfl,Gv _ _,aJ.o⟩
 | some x=>
  rw [hr] at HN
  clear hr
  unfold sv at HN |-
  go_enter func126,ntmps126
  go_wp2_with fail
  refine (HN.o _ (Zs _ _ _)).mono ?_
  rintro e w1 ⟨cN,rfl,aM,Z⟩
  rw [Option.getD_some] at aM
  have cU:Zn.R (λb=>S b/\b<w) w1 cN x:=Zn.mono aM (λb _ h=>h.1)
  obtain ⟨bQ,bO,cC,cA,cH,cF,k9,aH,n9,aI,aE,aB,N,aF,aC,O,aG,aD,U,a9,z9,aO,eE,bH,bI,bK,cP⟩:=Yq cU
  simp only [AL] at aO
  subst aO
  have V:=(Z.block (w+1) Ib).trans (Q6 w _ _)
  have aX:=Qq ((Zs w _ _).n Z);have bL:=Qq V
  have aP:=Z8 V
  obtain ⟨bD,bE,bF,dR⟩:=It bH bI bK cP
  clear aM cU Z V bH bI bK cP
  go_upto_region 4 with fail
  generalize aL:w1.alloc (.cells (AR x bQ bO cC cA cH cF k9 aH n9 aI aE aB N aF aC O aG aD U a9 z9) 48)=w5
  have aA:=Iq aL (Zg _ _)
  have bU:=Ik (b:=w1.heap.size) aL (Qw _ _)
  have Y:=kE aA aP bL.o
  obtain ⟨aK,eO,bM⟩:=Im aA bU Y
  obtain ⟨X,hX⟩:=eX (w1.heap.size)
  have D:=bU
  rw [hX] at D aP |-
  have eP:=Qq hX;have cM:=Qq D
  have aN:=Z8 D
  have v1:=Qk _ _ 1 _ _ _ D;have v2:=Qk _ _ 2 _ _ _ D;have v3:=Qk _ _ 3 _ _ _ D;have eG:=fA 1 D;have eH:=fA 2 D;have eI:=fA 3 D;simp only [Qf,Qg,Qh] at v1 v2 v3
  clear aA bU D Y aL hX
  go_cut [30] (λ_ wx=>∃ cp cc kp kc rp rc,TMidX S w X x cp cc kp kc rp rc k9 aH n9 aI aE aB N aF aC O aG aD U a9 z9 wx)
  case first=>
   go_region_with (first
    | (go_at_call 76;refine (Ry _ _ x.columns _ (bD.o.below aK.o.drew)).mono ?_;rintro e wA ⟨cp,cc,eW,rfl,cQ,bV⟩;have G:=(bV.block X aN).trans cM.o;have a1:=Qk _ _ 1 _ _ _ G;have a2:=Qk _ _ 2 _ _ _ G;have a3:=Qk _ _ 3 _ _ _ G;have eQ:=fA 1 G;have eR:=fA 2 G;have eS:=fA 3 G;simp only [Qf,Qg,Qh] at a1 a2 a3;obtain ⟨aY,bA,dT⟩:=Im G bV cQ;clear G bV cQ)
    | (go_at_call 162;refine (Lt _ _ x.key _ (bE.o.below (aK.o.drew.n bA.o))).mono ?_;rintro e wB ⟨kp,kc,fC,rfl,cR,bW⟩;have I:=(bW.block X (Z8 aY.o)).trans aY.o;have b1:=Qk _ _ 1 _ _ _ I;have b2:=Qk _ _ 2 _ _ _ I;have b3:=Qk _ _ 3 _ _ _ I;have eT:=fA 1 I;have eU:=fA 2 I;have eV:=fA 3 I;simp only [Qf,Qg,Qh] at b1 b2 b3;obtain ⟨aZ,bB,dU⟩:=Im I bW cR;clear I bW cR)
    | (go_at_call 165;refine (cloneRef _ _ x.refs _ (bF.o.below ((aK.o.drew.n bA.o).n bB.o))).mono ?_;rintro e wC ⟨rp,rc,fD,rfl,cS,bX⟩;have J:=(bX.block X (Z8 aZ.o)).trans aZ.o;have c1:=Qk _ _ 1 _ _ _ J;have c2:=Qk _ _ 2 _ _ _ J;have c3:=Qk _ _ 3 _ _ _ J;have eY:=fA 1 J;have eZ:=fA 2 J;have fB:=fA 3 J;simp only [Qf,Qg,Qh] at c1 c2 c3;obtain ⟨dS,bC,dV⟩:=Im J bX cS;clear J bX cS))
   all_goals
    go_wp2_with fail
    go_meet
    exact ⟨_,_,_,_,_,_,tmid_ofX (y1:=.slice bQ x.columns.length bO) (y2:=.slice cC x.key.length cA) (y3:=.slice cH x.refs.length cF) aP (aX.o.n (aK.o.drew.n (bA.o.n (bB.o.n bC.o)))) dS.o
     (bC.o.block _ (by have:=Z8 aZ.o;omega) |>.trans (bB.o.block _ (by have:=Z8 aY.o;omega) |>.trans (bA.o.block _ (by have:=aN;show _<w5.heap.size;omega) |>.trans bM.o)))
     (((clSX dT.o (by have:=bD.o.len;obtain ⟨_,_,_,h⟩:=this;exact h) (by show X<w5;exact aN)).below bB.o).below bC.o) ((clSX dU.o (by have:=bE.o.len;obtain ⟨_,_,_,h⟩:=this;exact h) (Z8 aY.o)).below bC.o) (clSX dV.o (by have:=bF.o.len;obtain ⟨_,_,_,h⟩:=this;exact h) (Z8 aZ.o))⟩
  obtain ⟨cp,cc,kp,kc,rp,rc,hT⟩:=hcut
  have HT:=Qq hT
  clear hT
  have fz:=λj=>Qn _ _ j _ _ HT.o.res
  have rr:=λj=>Qk _ _ j _ _ _ HT.o.res
  have xx:=λj=>Qk _ _ j _ _ _ HT.o.box
  obtain ⟨f0,f1,f2,f3,f4,f5,f6,f7,f8,f9,bR,bS,bT⟩:=AX fz
  obtain ⟨r0,r1,r2,r3,r4,r5,r6,r7,r8,r9,aT,aU,aV⟩:=AX rr
  obtain ⟨eJ,x1,x2,x3,x4,x5,x6,x7,x8,x9,eK,eL,eM⟩:=AX xx
  simp only [Qf,Qg,Qh] at r0 r1 r2 r3 r4 r5 r6 r7 r8 r9 aT aU aV eJ x1 x2 x3 x4 x5 x6 x7 x8 x9 eK eL eM
  clear fz rr xx v1 v2 v3 eG eH eI
  go_wp2_with fail
  obtain ⟨W,hW⟩:=eX (U5 wc (w+1) x.name (.slice cp x.columns.length cc) (.slice kp x.key.length kc) (.slice rp x.refs.length rc) k9 (.string aH) n9 (.string aI) (.slice aE aB N) (.slice aF aC O) (.slice aG aD U) a9 z9)
  have q:∀ j,W.cell? ⟨w+1,j,none⟩=#[.string ⟨x.name.toArray⟩,.slice cp x.columns.length cc,.slice kp x.key.length kc,.slice rp x.refs.length rc,.int .i64 k9,.string aH,.int .i64 n9,.string aI,.slice aE aB N,.slice aF aC O,.slice aG aD U,.int .i64 a9,.int .i64 z9][j]?:=λj=>by rw [<- hW];exact Ut HT.o.res j
  have bJ:∀ b,b≠w.heap.size+1->W.heap[b]?=wc.heap[b]?:=λb hb=>by rw [<- hW];exact Jw hb
  have M:Below w w W:=by rw [<- hW];exact V9 HT.o.below Ia
  show bodyPost _ _ _ _ _ (U5 wc (w+1) x.name (.slice cp x.columns.length cc) (.slice kp x.key.length kc) (.slice rp x.refs.length rc) k9 (.string aH) n9 (.string aI) (.slice aE aB N) (.slice aF aC O) (.slice aG aD U) a9 z9)
  rw [hW]
  have aJ:=Qq M;have cL:=Qq bJ
  obtain ⟨q0,q1,q2,q3,q4,q5,q6,q7,q8,q9,aQ,aR,aS⟩:=AX q
  simp only [Qf,Qg,Qh] at q0 q1 q2 q3 q4 q5 q6 q7 q8 q9 aQ aR aS
  clear hW M bJ q r0 r1 r2 r3 r4 r5 r6 r7 r8 r9 aT aU aV f0 f1 f2 f3 f4 f5 f6 f7 f8 f9 bR bS bT
  have A:∀ {T:Type} {r:Rd T} {v:Value} {xs:List T},Sl r (λb=>(S b/\b<w)\/w+1<b) wc v xs->Sl r (λb=>S b\/w<=b) W v xs:=λh=>(h.frame (λb hb _=>cL.o b (by rcases hb with hb | hb <;> omega))).mono (λb _ hb=>by rcases hb with hb | hb;(exact .inl hb.1);(exact .inr Ia))
  refine Q7 (v:=.tuple #[.agg (AR x cp cc kp kc rp rc k9 aH n9 aI aE aB N aF aC O aG aD U a9 z9),.bool true]) (by simp [results,results126,go_sem,q0,q1,q2,q3,q4,q5,q6,q7,q8,q9,aQ,aR,aS]) rfl ⟨_,rfl,?_,aJ.o⟩
  refine ⟨_,_,_,_,rfl,eE,A HT.o.cols,A HT.o.key,A HT.o.refs,?_⟩
  exact Yx.move dR.o (λb hb _=>(aJ.o.block b hb.2).trans (aX.o.block b hb.2).symm) (λb _ hb=>.inl hb.1)
def TableIs (w:World) (o:Option Tbl) (e:Ending) (w':World):Prop:=∃ cs',e=.returned (.tuple #[.agg cs'.toArray,.bool o.isSome])/\Zn.R (λ_=>True) w' cs' (o.getD Tbl.zero)/\Below w w w'
theorem Cm (S:Nat->Prop) (s:Sc) (cs:List Value) (x0:Bs) (w:World) (hs:Ve S w cs s):
  Calls prog 126 #[cs,sv x0] w (TableIs w (Yw s.tables x0)):=by
 refine (Wp S s cs x0 w hs).mono ?_
 rintro e w' ⟨A,h1,h2,h3⟩
 exact ⟨A,h1,Zn.mono h2 (λ_ _ _=>trivial),h3⟩
end Go.Proofs.YtdpibdpbgokmoaaGreatDoor
