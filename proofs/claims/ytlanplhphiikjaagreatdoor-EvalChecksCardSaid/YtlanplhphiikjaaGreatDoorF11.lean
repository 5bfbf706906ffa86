import Derived.Test.YtlanplhphiikjaaGreatDoorF07
set_option maxRecDepth 100000
set_option maxHeartbeats 400000000
namespace Go.Proofs.YtlanplhphiikjaaGreatDoor
open Go.RowKit Go.Shelf Go.Lib Tryz
def wI (n:Int):Bs:=vb (zz n)
def wT (s:Bs):Bs:=vb s.length++s
mutual
def Y0:Val->Bs
 | .mk k n s ns ks=>wI k++((if k=0\/k=2 then wI n else if k=1 then wT s else if k=3 then wT s++wI ks.length else wI ks.length)++Xg (k==4) ns ks)
def Xg:Bool->List Bs->List Val->Bs
 | _,_,[]=>[]
 | b,ns,v::ks=>(if b then wT (ns.headD []) else [])++(Y0 v++Xg b ns.tail ks)
end
def Vt (W:World) (R:Nat) (a0 a1 a2 a3 a4 a5 a6 a7 a8 a9 a10 a11 a12:Value):World:=(((((((((((((W.setCell ⟨R,0,none⟩ a0).setCell ⟨R,1,none⟩ a1).setCell ⟨R,2,none⟩ a2).setCell ⟨R,3,none⟩ a3).setCell ⟨R,4,none⟩ a4).setCell ⟨R,5,none⟩ a5).setCell ⟨R,6,none⟩ a6).setCell ⟨R,7,none⟩ a7).setCell ⟨R,8,none⟩ a8).setCell ⟨R,9,none⟩ a9).setCell ⟨R,10,none⟩ a10).setCell ⟨R,11,none⟩ a11).setCell ⟨R,12,none⟩ a12)
theorem Lk {W:World} {R:Nat} {a0 a1 a2 a3 a4 a5 a6 a7 a8 a9 a10 a11 a12 x0 x1 x2 x3 x4 x5 x6 x7 x8 x9 x10 x11 x12:Value} {t:TypeId} (h:W.heap[R]?=some (.cells #[x0,x1,x2,x3,x4,x5,x6,x7,x8,x9,x10,x11,x12] t (0,0))):(Vt W R a0 a1 a2 a3 a4 a5 a6 a7 a8 a9 a10 a11 a12).heap[R]?=some (.cells #[a0,a1,a2,a3,a4,a5,a6,a7,a8,a9,a10,a11,a12] t (0,0)):=by
 have D:=Qd _ _ 0 _ _ a0 h;have D:=Qd _ _ 1 _ _ a1 D;have D:=Qd _ _ 2 _ _ a2 D;have D:=Qd _ _ 3 _ _ a3 D;have D:=Qd _ _ 4 _ _ a4 D;have D:=Qd _ _ 5 _ _ a5 D;have D:=Qd _ _ 6 _ _ a6 D;have D:=Qd _ _ 7 _ _ a7 D;have D:=Qd _ _ 8 _ _ a8 D;have D:=Qd _ _ 9 _ _ a9 D;have D:=Qd _ _ 10 _ _ a10 D;have D:=Qd _ _ 11 _ _ a11 D;have D:=Qd _ _ 12 _ _ a12 D
 simpa [Vt] using D
theorem U6 {W:World} {R:Nat} {a0 a1 a2 a3 a4 a5 a6 a7 a8 a9 a10 a11 a12 x0 x1 x2 x3 x4 x5 x6 x7 x8 x9 x10 x11 x12:Value} {t:TypeId} (h:W.heap[R]?=some (.cells #[x0,x1,x2,x3,x4,x5,x6,x7,x8,x9,x10,x11,x12] t (0,0))) (j:Nat):(Vt W R a0 a1 a2 a3 a4 a5 a6 a7 a8 a9 a10 a11 a12).cell? ⟨R,j,none⟩=#[a0,a1,a2,a3,a4,a5,a6,a7,a8,a9,a10,a11,a12][j]?:=
 Qk _ _ _ _ _ _ (Lk h)
theorem Ko {W:World} {R k:Nat} {a0 a1 a2 a3 a4 a5 a6 a7 a8 a9 a10 a11 a12:Value} (h:k≠R):(Vt W R a0 a1 a2 a3 a4 a5 a6 a7 a8 a9 a10 a11 a12).heap[k]?=W.heap[k]?:=by
 unfold Vt
 repeat rw [Z4 h]
theorem Vs {B R:Nat} {w W:World} {a0 a1 a2 a3 a4 a5 a6 a7 a8 a9 a10 a11 a12:Value} (h:Below B w W) (hR:B<=R):Below B w (Vt W R a0 a1 a2 a3 a4 a5 a6 a7 a8 a9 a10 a11 a12):=
 ((((((((((((h.setCell (p:=⟨R,0,none⟩) hR _).setCell (p:=⟨R,1,none⟩) hR _).setCell (p:=⟨R,2,none⟩) hR _).setCell (p:=⟨R,3,none⟩) hR _).setCell (p:=⟨R,4,none⟩) hR _).setCell (p:=⟨R,5,none⟩) hR _).setCell (p:=⟨R,6,none⟩) hR _).setCell (p:=⟨R,7,none⟩) hR _).setCell (p:=⟨R,8,none⟩) hR _).setCell (p:=⟨R,9,none⟩) hR _).setCell (p:=⟨R,10,none⟩) hR _).setCell (p:=⟨R,11,none⟩) hR _).setCell (p:=⟨R,12,none⟩) hR _
def Tbl.zero:Tbl:=⟨[],[],[],[],.mk 0 [] 0 [] [] [] [] 0 0⟩
theorem Du (S:Nat->Prop) (w:World):Zg.R S w [Oo,Ot,Ot,Ot,On,Oo,On,Oo,Ot,Ot,Ot,On,On] Tbl.zero:=
 ⟨_,_,_,_,rfl,by simp [Tbl.zero],Sl.nil _ _ _,Sl.nil _ _ _,Sl.nil _ _ _,Xd (nm:=[]) (s:=[]) Od Od (Sl.nil _ _ _) (Sl.nil _ _ _) (Sl.nil _ _ _)⟩
theorem L3 (S:Nat->Prop) (t:Tbl) (ct:List Value) (w:World) (h:Zg.R S w ct t):
  Calls prog 234 #[ct] w fun e w'=>e=.returned (sv t.name)/\Below w w w':=by
 obtain ⟨cp,cc,kp,kc,rp,rc,k,s1,n,s2,p1,n1,c1,p2,n2,c2,p3,n3,c3,a,z,D,_⟩:=Zr h
 simp only [tcs] at D
 subst D
 clear h
 unfold sv
 go_enter func234,ntmps234
 go_wp2_with fail
 go_ret
 exact ⟨rfl,Zb _ _⟩
def Ye (l:List Tbl) (x:Bs):Option Tbl:=l.find? (fun t=>decide (t.name=x))
def NamedIs (S:Nat->Prop) (w:World) (o:Option Tbl) (e:Ending) (w':World):Prop:=∃ cs',e=.returned (.tuple #[.agg cs'.toArray,.bool o.isSome])/\Zg.R (fun b=>S b/\b<w) w' cs' (o.getD Tbl.zero)/\Below w w w'
theorem N5 (S:Nat->Prop) (l:List Tbl) (v:Value) (x0:Bs) (w:World) (hv0:Sl Zg S w v l):
  Calls prog 233 #[v,.func (.func 234) #[] #[],sv x0] w (NamedIs S w (Ye l x0)):=by
 have hv:=hv0.up
 obtain ⟨vp,eB,rfl,hl⟩:=hv.len
 have HV:=Qq hv
 clear hv hv0
 obtain ⟨m,hm⟩:=eX (l.length)
 rw [hm] at HV hl |-
 have HN:=Qq hm
 clear hm
 obtain ⟨r,hr⟩:=eX (Ye l x0)
 rw [hr]
 have HR:=Qq hr
 clear hr
 unfold sv
 go_enter func233,ntmps233
 go_wp2_with fail
 generalize cD:w.alloc (.cells zT 61)=W1
 have cT:=eqB cD (Zb _ _)
 have cS:=eqH (b:=w.heap.size) cD (Qw _ _)
 have dP:=Qq cT;have dR:=Qq cS
 clear cD cT cS
 go_loopw [13] (fun i wr=>∃ k:Nat,k<=m/\i=.int .i64 k/\Aside (∀ (j:Nat) (y:Tbl),j<k->l[j]?=some y->decide (y.name=x0)=false)/\Below W1 W1 wr) (fun i _=>m - (intOf i).toNat)
 case atStart=>exact ⟨0,Q3 _,rfl,fun j _ hj=>absurd hj (Z1 _),Qz _ _⟩
 obtain ⟨k,hk,rfl,hA,hB⟩:=hrel
 have I:=kB hB dR.out
 have bM:=Z3 I
 obtain ⟨HA,HB,dQ⟩:=Px hA.out (dP.out.thn hB) hB
 clear hA hB
 by_cases cH:k<m
 ·have eD:(0:Int)<=(k:Int):=Oa
  have eE:(k:Int)<(m:Int):=Oa
  obtain ⟨x,hx⟩:∃ x,l[k]?=some x:=⟨_,Qx (by rw [HN.out];exact cH)⟩
  obtain ⟨bb,eF,cx,rfl,eC,-,-,bK,G⟩:=(HV.out.below HB.out).elem hx
  have cB:=Qq (L3 _ x cx (wr.alloc (.cells cx.toArray 61)) (Zg.frame bK (.of_below (Zb _ _))))
  have dS:=Qq bK
  obtain ⟨aF,aE,aL,aK,aW,aV,k9,aX,n9,aY,aP,aM,aB,aQ,aN,aC,aR,aO,aD,a9,z9,cU,_⟩:=Zr bK
  simp only [tcs] at cU
  subst cU
  have y0:=G 0 _ rfl;have y1:=G 1 _ rfl;have y2:=G 2 _ rfl;have y3:=G 3 _ rfl;have y4:=G 4 _ rfl;have y5:=G 5 _ rfl;have y6:=G 6 _ rfl;have y7:=G 7 _ rfl;have y8:=G 8 _ rfl;have y9:=G 9 _ rfl;have dI:=G 10 _ rfl;have dJ:=G 11 _ rfl;have dK:=G 12 _ rfl
  simp only [show Zg.k=13 from rfl,Nat.add_zero] at y0 y1 y2 y3 y4 y5 y6 y7 y8 y9 dI dJ dK
  have HX:=Qq hx;have aA:=Qq I
  clear hx bK G I
  unfold sv at cB
  by_cases he:x.name=x0
  ·have hq:(x.name==x0)=true:=by rw [he];simp
   have aJ:r=some x:=by
    rw [<- HR.out]
    unfold Ye
    obtain ⟨dU,eA⟩:=Qj HX.out
    rw [List.find?_eq_some_iff_getElem]
    refine ⟨by simp [he],k,dU,eA,fun j hj=>?_⟩
    have:=HA.out j _ hj (Qx Oa)
    simpa using this
   have Z:=Qq aJ
   clear aJ he
   go_wp2_with fail
   refine cB.out.mono ?_
   rintro e w5 ⟨rfl,hw⟩
   have D:=(hw.block wr Od).trans (Qw wr _)
   have J:=(hw.block w (by simp;omega)).trans ((Below.heap_alloc wr _ _ bM).trans aA.out)
   have aZ:=Qk _ _ 0 _ _ _ D;have bA:=Qk _ _ 1 _ _ _ D;have bB:=Qk _ _ 2 _ _ _ D;have bC:=Qk _ _ 3 _ _ _ D;have bD:=Qk _ _ 4 _ _ _ D;have bE:=Qk _ _ 5 _ _ _ D;have bF:=Qk _ _ 6 _ _ _ D;have bG:=Qk _ _ 7 _ _ _ D;have bH:=Qk _ _ 8 _ _ _ D;have bI:=Qk _ _ 9 _ _ _ D;have T:=Qk _ _ 10 _ _ _ D;have U:=Qk _ _ 11 _ _ _ D;have V:=Qk _ _ 12 _ _ _ D
   have fz:=fun j=>Qg _ _ j _ _ J
   have rr:=fun j=>Qk _ _ j _ _ _ J
   obtain ⟨f0,f1,f2,f3,f4,f5,f6,f7,f8,f9,aG,aH,aI⟩:=P6 fz
   obtain ⟨r0,r1,r2,r3,r4,r5,r6,r7,r8,r9,M,N,O⟩:=P6 rr
   simp only [Qa,Qb,Qc] at aZ bA bB bC bD bE bF bG bH bI T U V r0 r1 r2 r3 r4 r5 r6 r7 r8 r9 M N O
   have cA:=Qq (HB.out.thn ((Zb wr _).thn hw));have cC:=Qq J
   have cJ:=Qq ((Zb wr _).thn hw)
   clear fz rr D J hw y0 y1 y2 y3 y4 y5 y6 y7 y8 y9 dI dJ dK
   go_wp2_with fail
   obtain ⟨W,hW⟩:=eX (Vt w5 w x.name (.slice aF x.columns.length aE) (.slice aL x.key.length aK) (.slice aW x.refs.length aV) k9 (.string aX) n9 (.string aY) (.slice aP aM aB) (.slice aQ aN aC) (.slice aR aO aD) a9 z9)
   have q:∀ j,W.cell? ⟨w,j,none⟩=#[.string ⟨x.name.toArray⟩,.slice aF x.columns.length aE,.slice aL x.key.length aK,.slice aW x.refs.length aV,.int .i64 k9,.string aX,.int .i64 n9,.string aY,.slice aP aM aB,.slice aQ aN aC,.slice aR aO aD,.int .i64 a9,.int .i64 z9][j]?:=fun j=>by rw [<- hW];exact U6 cC.out j
   have bN:∀ b,b<w.heap.size->W.heap[b]?=w5.heap[b]?:=fun b hb=>by rw [<- hW];exact Ko Oa
   have L:Below w w W:=by rw [<- hW];exact Vs cA.out (Q4 _)
   show bodyPost _ _ _ _ _ (Vt w5 w x.name (.slice aF x.columns.length aE) (.slice aL x.key.length aK) (.slice aW x.refs.length aV) k9 (.string aX) n9 (.string aY) (.slice aP aM aB) (.slice aQ aN aC) (.slice aR aO aD) a9 z9)
   rw [hW]
   have cK:=Qq bN;have Y:=Qq L
   obtain ⟨q0,q1,q2,q3,q4,q5,q6,q7,q8,q9,aS,aT,aU⟩:=P6 q
   simp only [Qa,Qb,Qc] at q0 q1 q2 q3 q4 q5 q6 q7 q8 q9 aS aT aU
   clear hW bN L q r0 r1 r2 r3 r4 r5 r6 r7 r8 r9 M N O f0 f1 f2 f3 f4 f5 f6 f7 f8 f9 aG aH aI aZ bA bB bC bD bE bF bG bH bI T U V
   refine Q2 (v:=.tuple #[.agg (Pj x aF aE aL aK aW aV k9 aX n9 aY aP aM aB aQ aN aC aR aO aD a9 z9),.bool true]) (by simp [results,results233,go_sem,q0,q1,q2,q3,q4,q5,q6,q7,q8,q9,aS,aT,aU]) rfl ⟨Pj x aF aE aL aK aW aV k9 aX n9 aY aP aM aB aQ aN aC aR aO aD a9 z9,by rw [Z.out];rfl,?_,Y.out⟩
   rw [Z.out]
   exact Zg.frame dS.out (fun b hb cH=>(cK.out b hb.2).trans (cJ.out.block b cH))
  have hq:(x.name==x0)=false:=by rw [<- Qn,beq_iff_eq];exact he
  have HE:=Qq he
  clear he
  go_wp2_with (go_at_call 234;refine cB.out.mono ?_;rintro e w5 ⟨rfl,hw⟩;have dT:=Qq ((Zb wr _).thn hw);clear hw)
  go_roundw
  case measure=>simp [intOf];omega
  case rel=>
   refine ⟨k+1,Oa,by go_num,(show Aside _ from fun j y hj hy=>?_),?_⟩
   ·by_cases e:j=k
    ·subst e
     have:=HX.out
     rw [this] at hy
     cases hy
     simpa using HE.out
    exact HA.out j y Oa hy
   exact (dQ.out.thn dT.out)
 have dV:k=m:=Oa
 subst dV
 have aJ:r=none:=by
  rw [<- HR.out]
  unfold Ye
  rw [List.find?_eq_none]
  intro y hy
  obtain ⟨j,hj⟩:=Qt hy
  have:=HA.out j y (by have:=(Qj hj).1;have:=HN.out;omega) hj
  simpa using this
 have Z:=Qq aJ
 have fz:=fun j=>Qg _ _ j _ _ I
 have rr:=fun j=>Qk _ _ j _ _ _ I
 obtain ⟨f0,f1,f2,f3,f4,f5,f6,f7,f8,f9,aG,aH,aI⟩:=P6 fz
 obtain ⟨r0,r1,r2,r3,r4,r5,r6,r7,r8,r9,M,N,O⟩:=P6 rr
 simp only [Qa,Qb,Qc] at r0 r1 r2 r3 r4 r5 r6 r7 r8 r9 M N O
 have aA:=Qq I
 clear fz rr I aJ f0 f1 f2 f3 f4 f5 f6 f7 f8 f9 aG aH aI r0 r1 r2 r3 r4 r5 r6 r7 r8 r9 M N O
 go_upto_region 8 with fail
 generalize cE:wr.alloc (.cells zT 61)=w5
 have cF:=eqB cE (Zb _ _)
 have D:=eqH (b:=wr.heap.size) cE (Qw _ _)
 have J:=(cF.block w bM).trans aA.out
 have aZ:=Qk _ _ 0 _ _ _ D;have bA:=Qk _ _ 1 _ _ _ D;have bB:=Qk _ _ 2 _ _ _ D;have bC:=Qk _ _ 3 _ _ _ D;have bD:=Qk _ _ 4 _ _ _ D;have bE:=Qk _ _ 5 _ _ _ D;have bF:=Qk _ _ 6 _ _ _ D;have bG:=Qk _ _ 7 _ _ _ D;have bH:=Qk _ _ 8 _ _ _ D;have bI:=Qk _ _ 9 _ _ _ D;have T:=Qk _ _ 10 _ _ _ D;have U:=Qk _ _ 11 _ _ _ D;have V:=Qk _ _ 12 _ _ _ D
 have fz:=fun j=>Qg _ _ j _ _ J
 have rr:=fun j=>Qk _ _ j _ _ _ J
 obtain ⟨f0,f1,f2,f3,f4,f5,f6,f7,f8,f9,aG,aH,aI⟩:=P6 fz
 obtain ⟨r0,r1,r2,r3,r4,r5,r6,r7,r8,r9,M,N,O⟩:=P6 rr
 simp only [Qa,Qb,Qc] at aZ bA bB bC bD bE bF bG bH bI T U V r0 r1 r2 r3 r4 r5 r6 r7 r8 r9 M N O
 have cA:=Qq (HB.out.thn cF);have cC:=Qq J
 clear fz rr D J cF cE
 go_wp2_with fail
 obtain ⟨W,hW⟩:=eX (Vt w5 w Oo Ot Ot Ot On Oo On Oo Ot Ot Ot On On)
 have q:∀ j,W.cell? ⟨w,j,none⟩=zT[j]?:=fun j=>by rw [<- hW];exact U6 cC.out j
 have L:Below w w W:=by rw [<- hW];exact Vs cA.out (Q4 _)
 show bodyPost _ _ _ _ _ (Vt w5 w Oo Ot Ot Ot On Oo On Oo Ot Ot Ot On On)
 rw [hW]
 have Y:=Qq L
 obtain ⟨q0,q1,q2,q3,q4,q5,q6,q7,q8,q9,aS,aT,aU⟩:=P6 q
 simp only [Qa,Qb,Qc] at q0 q1 q2 q3 q4 q5 q6 q7 q8 q9 aS aT aU
 clear hW L q r0 r1 r2 r3 r4 r5 r6 r7 r8 r9 M N O f0 f1 f2 f3 f4 f5 f6 f7 f8 f9 aG aH aI aZ bA bB bC bD bE bF bG bH bI T U V
 refine Q2 (v:=.tuple #[.agg zT,.bool false]) (by simp [results,results233,go_sem,q0,q1,q2,q3,q4,q5,q6,q7,q8,q9,aS,aT,aU]) rfl ⟨[Oo,Ot,Ot,Ot,On,Oo,On,Oo,Ot,Ot,Ot,On,On],by rw [Z.out];rfl,?_,Y.out⟩
 rw [Z.out]
 exact Du _ _
def Do (x:Val):Prop:=∀ (S:Nat->Prop) (cs:List Value) (w:World),Z5 S w cs x->Calls prog 106 #[cs] w (Mr w x)
theorem Ez (k n:Int) (s:Bs) (ns:List Bs) (ks:List Val) (ih:∀ x ∈ ks,Do x):Do (.mk k n s ns ks):=by
 intro S0 cs w bK
 have hx:Z5 (fun b=>b<w) w cs (.mk k n s ns ks):=bK.move (.refl _ _) (fun b hb _=>hb)
 clear bK
 obtain ⟨nv,kv,rfl,hs,hn,hk⟩:=Xs.1 hx
 have cJ:ns.length<=1000000:=by obtain ⟨_,_,_,h⟩:=hn.len;exact h
 have cI:ks.length<=1000000:=by obtain ⟨_,_,_,h⟩:=hk.len;exact h
 obtain ⟨HN,HK,HI⟩:=Px hn hk ih
 clear hx hn hk ih
 unfold sv
 go_enter func106,ntmps106
 go_upto_region 1 with fail
 go_cut [11] (fun _ wx=>∃ np M kp D U,Vg w k n s ns ks np M kp D U 0 wx/\Cs Zc (fun b=>b<w) w U ks)
 case first=>
  go_region_with (first | (go_at_call 150;refine (Dd _ nv ns _ (HN.out.below (by first | exact (Zl _ _ _).drew | exact (Zl _ _ _).drew.thn aO.out | exact (Zl _ _ _).drew.thn aP.out))).mono ?_;rintro e w1 ⟨np,M,dX,rfl,bI,aJ⟩;obtain ⟨aE,aG⟩:=Di aJ;have cL:=aJ.size;have aO:=Qq aJ;have bU:=Qq bI;clear aJ bI;(try simp at cL);have cF:w.heap.size<w1.heap.size:=Oa;have cH:w.heap.size+1<w1.heap.size:=Oa;have dI:w1.cell? ⟨w,3,none⟩=some nv:=(by first | (rw [aE _ _ (by simp;omega)];simp) | (rw [aE _ _ Oh];assumption));have dN:w1.frozen? ⟨w,3,none⟩=false:=(by first | (rw [aG _ _ (by simp;omega)];simp) | (rw [aG _ _ Oh];assumption));have dJ:w1.cell? ⟨w,4,none⟩=some kv:=(by first | (rw [aE _ _ (by simp;omega)];simp) | (rw [aE _ _ Oh];assumption));have dO:w1.frozen? ⟨w,4,none⟩=false:=(by first | (rw [aG _ _ (by simp;omega)];simp) | (rw [aG _ _ Oh];assumption));clear aE aG) | (go_at_call 141;refine (Eh _ kv ks _ (HK.out.below (by first | exact (Zl _ _ _).drew | exact (Zl _ _ _).drew.thn aO.out | exact (Zl _ _ _).drew.thn aP.out))).mono ?_;rintro e w2 ⟨kp,D,U,rfl,bJ,aK⟩;obtain ⟨aF,aH⟩:=Di aK;have cM:=aK.size;have aP:=Qq aK;have aR:=Qq bJ;clear aK bJ;(try simp only [World.size_drew,World.size_alloc] at cM);have dR:w.heap.size<w2.heap.size:=Oa;have dV:w.heap.size+1<w2.heap.size:=Oa;have dK:w2.cell? ⟨w,3,none⟩=some nv:=(by first | (rw [aF _ _ (by simp;omega)];simp) | (rw [aF _ _ Oh];assumption));have dP:w2.frozen? ⟨w,3,none⟩=false:=(by first | (rw [aH _ _ (by simp;omega)];simp) | (rw [aH _ _ Oh];assumption));have dL:w2.cell? ⟨w,4,none⟩=some kv:=(by first | (rw [aF _ _ (by simp;omega)];simp) | (rw [aF _ _ Oh];assumption));have dQ:w2.frozen? ⟨w,4,none⟩=false:=(by first | (rw [aH _ _ (by simp;omega)];simp) | (rw [aH _ _ Oh];assumption));clear aF aH))
  all_goals
   go_wp2_with fail
   go_meet
   have b1:=aO.out
   have b2:=aP.out
   have bC:=b1.block w (by simp;omega)
   have aM:=b1.block (w+1) Od
   rw [heap_drew,Q0] at bC
   rw [heap_drew,Q1] at aM
   have cE:=kE b2 cF bC
   have bD:=kE b2 cH aM
   have bF:Below w w w2:=(Zl _ _ _).drew.thn (b1.thn b2)
   refine ⟨np,M,kp,D,U,⟨(bF.setCell (p:=⟨w,3,none⟩) (Q4 _) _).setCell (p:=⟨w,4,none⟩) (Q4 _) _,?_,?_,?_,⟨[],rfl,?_,⟨rfl,fun i c x hc=>by simp at hc⟩⟩⟩,?_⟩
   ·exact Qd _ _ _ _ _ _ (Qd _ _ _ _ _ _ cE)
   ·rw [Z4 Od,Z4 Od];exact bD
   ·refine ((sl_str bU.out cJ Od).mono (S':=fun b=>w+2<=b/\some b≠(Value.slice kp ks.length D).ownBlock) (fun b hb h=>⟨h,fun e=>?_⟩)).frame (fun b hb V=>?_)
    ·have:=(aR.out.row.lt b e.symm).1
     omega
    rw [Z4 (by show b≠w;omega),Z4 (by show b≠w;omega)]
    exact b2.block b V
   ·refine Ud aR.out.row Oa (fun b hb V=>?_)
    rw [Z4 (by show b≠w;omega),Z4 (by show b≠w;omega)]
   exact (aR.out.cs.move (S':=fun b=>b<w) (.refl _ _) (fun b _ h=>h.1)).move (fun b hb _=>(bF.block b hb).symm) (fun b _ h=>h)
 obtain ⟨np,M,kp,D,U,T,bB⟩:=hcut
 have HC:=Qq bB;have HM:=Qq T
 obtain ⟨c0,c1,c2,c3,c4⟩:=row5 T.box
 clear bB T
 go_wp2_with fail
 go_loopw [15] (fun i wr=>∃ L:Nat,L<=ks.length/\i=.int .i64 L/\Vg w k n s ns ks np M kp D U L wr) (fun i _=>ks.length - (intOf i).toNat)
 case atStart=>exact ⟨0,Q3 _,rfl,HM.out⟩
 obtain ⟨L,dW,rfl,T⟩:=hrel
 have c0:=Qk _ _ 0 _ _ _ T.box;have c1:=Qk _ _ 1 _ _ _ T.box;have c2:=Qk _ _ 2 _ _ _ T.box;have c3:=Qk _ _ 3 _ _ _ T.box;have c4:=Qk _ _ 4 _ _ _ T.box
 have r0:=Qk _ _ 0 _ _ _ T.res;have r1:=Qk _ _ 1 _ _ _ T.res;have r2:=Qk _ _ 2 _ _ _ T.res;have r3:=Qk _ _ 3 _ _ _ T.res;have r4:=Qk _ _ 4 _ _ _ T.res
 have fr:=fun j=>Qg _ _ j _ _ T.res
 have dB:=(Array.getElem?_eq_some_iff.1 T.res).1
 simp only [Qa,Qb,Qc] at c0 c1 c2 c3 c4 r0 r1 r2 r3 r4
 have Z:=Qq T
 by_cases V:L<ks.length
 ·obtain ⟨x,hx⟩:∃ x,ks[L]?=some x:=⟨_,Qx V⟩
  obtain ⟨Y,aL,J,I⟩:=T.kids
  obtain ⟨g,cap,bH,dS,O⟩:=J.form Oa
  simp only [Ql] at bH
  obtain ⟨rfl,-,rfl⟩:=bH
  obtain ⟨oc,aU⟩:∃ oc,U[L]?=some oc:=⟨_,Qx (by rw [HC.out.len];exact V)⟩
  have aW:=HC.out.R L oc x aU hx
  obtain ⟨p3,k3,p4,k4,rfl,_⟩:=Z5.cells (show Z5 _ w oc x from aW)
  have aD:∀ y ∈ Y++U.drop L,y.length=5:=by
   intro y hy
   rcases Zw.1 hy with h | h
   ·exact I.all y h
   exact HC.out.all y (Zz h)
  have aT:(Y++U.drop L)[L]?=some (vcs x p3 k3 p4 k4):=by
   rw [Zj Oa,List.getElem?_drop,aL,Nat.sub_self,Nat.add_zero];exact aU
  have G:∀ (j:Nat) u,(vcs x p3 k3 p4 k4)[j]?=some u->wr.cell? ⟨g,L*5+j,none⟩=some u:=by
   intro j u hu
   have h5:j<5:=(Qj hu).1
   rw [J.cellAt _ Oa]
   exact X8 aD aT hu
  have d0:=G 0 _ rfl;have d1:=G 1 _ rfl;have d2:=G 2 _ rfl;have d3:=G 3 _ rfl;have d4:=G 4 _ rfl
  rw [Nat.add_zero] at d0
  have fz:=fun j=>J.frozenAt j
  have dT:(0:Int)<=(L:Int):=Oa
  have dU:(L:Int)<(ks.length:Int):=Oa
  have dC:w.heap.size≠wr.heap.size:=Oa
  have dD:w.heap.size+1≠wr.heap.size:=Oa
  have dE:g≠wr.heap.size:=Oa
  obtain ⟨HX,HV,HA,dF,HR⟩:=Pw hx aW aD aT J;obtain ⟨dH,HL,aB,dG⟩:=Py I aL fz fr
  clear hx aW aD aT J I aL G aU T fz fr r0 r1 r2 r3 r4 c0 c1 c2 c3
  have aQ:=Qq (Qz wr wr)
  have c5:=c4
  have bY:=c4
  clear c5
  go_upto_region 5 with fail
  go_region_with (first | (go_at_call 106;refine (HI.out x (Qy HX.out) _ (vcs x p3 k3 p4 k4) _ (Z5.move HV.out (.of_below (Z.out.below.thn aQ.out.drew)) P8)).mono ?_;rintro e w4 ⟨dM,rfl,aV,bE⟩;obtain ⟨q3,l3,q4,l4,bG,_⟩:=Z5.cells aV;simp only [vcs] at bG;subst bG;have N:=Qq (aQ.out.drew.thn bE);have bV:=Qq aV;clear aV bE;have e4:=kD N.out Oa bY;have g0:=kD N.out O d0;have g1:=kD N.out O d1;have g2:=kD N.out O d2;have g3:=kD N.out O d3;have g4:=kD N.out O d4;have f0:=(N.out.frozen (p:=⟨g,L*5,none⟩) O).trans (aB.out (L*5));have f1:=(N.out.frozen (p:=⟨g,L*5+1,none⟩) O).trans (aB.out (L*5+1));have f2:=(N.out.frozen (p:=⟨g,L*5+2,none⟩) O).trans (aB.out (L*5+2));have f3:=(N.out.frozen (p:=⟨g,L*5+3,none⟩) O).trans (aB.out (L*5+3));have f4:=(N.out.frozen (p:=⟨g,L*5+4,none⟩) O).trans (aB.out (L*5+4))))
  all_goals
   go_wp2_with fail
   go_roundw
   case measure=>simp [intOf];omega
   case rel=>exact ⟨L+1,Oa,by go_num,Z.out.next HX.out HC.out N.out (aQ.out.size) bV.out⟩
 obtain rfl:L=ks.length:=Oa
 obtain ⟨bZ,cA,cB,cC,cD⟩:=P3 fr
 clear fr
 go_wp2_with fail
 have aA:=Qd _ _ 4 _ _ (.slice kp ks.length D) (Qd _ _ 3 _ _ (.slice np ns.length M) (Qd _ _ 2 _ _ (.string ⟨s.toArray⟩) (Qd _ _ 1 _ _ (.int .i64 n) (Qd _ _ 0 _ _ (.int .i64 k) Z.out.res))))
 have q0:=Qk _ _ 0 _ _ _ aA;have q1:=Qk _ _ 1 _ _ _ aA;have q2:=Qk _ _ 2 _ _ _ aA;have q3:=Qk _ _ 3 _ _ _ aA;have q4:=Qk _ _ 4 _ _ _ aA
 simp only [List.setIfInBounds_toArray,List.set_cons_zero,List.set_cons_succ,Qa,Qb,Qc] at q0 q1 q2 q3 q4
 obtain ⟨WF,aC⟩:=eX ((((((wr.setCell ⟨w+1,0,none⟩ (.int .i64 k)).setCell ⟨w+1,1,none⟩ (.int .i64 n)).setCell ⟨w+1,2,none⟩ (.string ⟨s.toArray⟩)).setCell ⟨w+1,3,none⟩ (.slice np ns.length M)).setCell ⟨w+1,4,none⟩ (.slice kp ks.length D)))
 rw [aC] at q0 q1 q2 q3 q4 |-
 have bW:=Qq aC
 clear aA aC c0 c1 c2 c3 c4 r0 r1 r2 r3 r4 bZ cA cB cC cD
 refine Q2 (v:=.agg #[k,n,s,.slice np ns.length M,.slice kp ks.length D]) (by simp [results,results106,go_sem,q0,q1,q2,q3,q4]) rfl ⟨_,rfl,?_,?_⟩
 all_goals rw [<- bW.out]
 ·obtain ⟨Y,aL,J,I⟩:=Z.out.kids
  rw [Qo (by rw [HC.out.len];exact Q4 _),List.append_nil] at J
  rw [Qp (Q4 _)] at I
  have hO:Own Zc 48 (fun b=>w+2<=b) (w+2) wr (.slice kp ks.length D) ks Y:=⟨J,I⟩
  refine Zu hs ?_ ?_
  ·refine (Z.out.names.frame (fun b hS V=>?_)).mono (fun b _ hS=>?_)
   ·exact Y1 (by have:w.heap.size+2<=b:=hS.1;omega)
   have:w.heap.size+2<=b:=hS.1
   show w<=b
   omega
  refine ((hO.sl cI (S':=fun b=>w+2<=b) (fun b h=>h) (fun b _ h=>h)).frame (fun b hS V=>?_)).mono (fun b _ hS=>?_)
  ·exact Y1 (by have:w.heap.size+2<=b:=hS;omega)
  have:w.heap.size+2<=b:=hS
  show w<=b
  omega
 exact ((((Z.out.below.setCell (p:=⟨w+1,0,none⟩) (Nat.le_succ _) _).setCell (p:=⟨w+1,1,none⟩) (Nat.le_succ _) _).setCell (p:=⟨w+1,2,none⟩) (Nat.le_succ _) _).setCell (p:=⟨w+1,3,none⟩) (Nat.le_succ _) _).setCell (p:=⟨w+1,4,none⟩) (Nat.le_succ _) _
theorem E8:∀ x:Val,Do x
 | .mk k n s ns ks=>Ez k n s ns ks fun x _=>E8 x
termination_by x=>SizeOf.sizeOf x
decreasing_by
 have:=List.sizeOf_lt_of_mem ‹_ ∈ ks›
 simp only [Val.mk.sizeOf_spec]
 omega
end Go.Proofs.YtlanplhphiikjaaGreatDoor
