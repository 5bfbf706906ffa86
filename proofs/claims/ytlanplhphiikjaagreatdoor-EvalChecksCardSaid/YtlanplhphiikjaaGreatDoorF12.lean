import Derived.Test.YtlanplhphiikjaaGreatDoorF11
set_option maxRecDepth 100000
set_option maxHeartbeats 400000000
namespace Go.Proofs.YtlanplhphiikjaaGreatDoor
open Go.RowKit Go.Shelf Go.Lib Tryz
def TableIsX (S:Nat->Prop) (w:World) (o:Option Tbl) (e:Ending) (w':World):Prop:=∃ cs',e=.returned (.tuple #[.agg cs'.toArray,.bool o.isSome])/\Zg.R (fun b=>S b\/w<=b) w' cs' (o.getD Tbl.zero)/\Below w w w'
structure TMidX (S:Nat->Prop) (w:World) (X:Nat) (x:Tbl) (cp:Option Addr) (cc:Nat) (kp:Option Addr) (kc:Nat) (rp:Option Addr) (rc:Nat) (k9:Int) (s19:ByteArray) (n9:Int) (s29:ByteArray) (p19:Option Addr) (n19 c19:Nat) (p29:Option Addr) (n29 c29:Nat) (p39:Option Addr) (n39 c39:Nat) (a9 z9:Int) (wx:World):Prop where
 below:Below w w wx
 box:wx.heap[X]?=some (.cells (Pj x cp cc kp kc rp rc k9 s19 n9 s29 p19 n19 c19 p29 n29 c29 p39 n39 c39 a9 z9) 61 (0,0))
 res:wx.heap[w.heap.size+1]?=some (.cells zT 61 (0,0))
 cols:Sl Yy (fun b=>(S b/\b<w)\/w+1<b) wx (.slice cp x.columns.length cc) x.columns
 key:Sl Zi (fun b=>(S b/\b<w)\/w+1<b) wx (.slice kp x.key.length kc) x.key
 refs:Sl Dz (fun b=>(S b/\b<w)\/w+1<b) wx (.slice rp x.refs.length rc) x.refs
theorem clSX {T:Type} {r:Rd T} {E:TypeId} {S:Nat->Prop} {B X:Nat} {w:World} {v:Value} {xs:List T} {css:List (List Value)} (h:Own r E S B w v xs css) (hl:xs.length<=1000000) (hX:X<B):Sl r (fun b=>S b\/X<b) w v xs:=
 h.sl hl (fun b hb=>.inr Oa) (fun b _ hb=>.inl hb)
theorem tmid_ofX {S:Nat->Prop} {w wC:World} {X:Nat} {x:Tbl} {cp:Option Addr} {cc:Nat} {kp:Option Addr} {kc:Nat} {rp:Option Addr} {rc:Nat} {k9:Int} {s19:ByteArray} {n9:Int} {s29:ByteArray} {p19:Option Addr} {n19 c19:Nat} {p29:Option Addr} {n29 c29:Nat} {p39:Option Addr} {n39 c39:Nat} {a9 z9:Int} {y1 y2 y3:Value}
  (hlt:w+1<X) (hb:Below w w wC)
  (hX:wC.heap[X]?=some (.cells #[x.name,y1,y2,y3,k9,.string s19,n9,.string s29,.slice p19 n19 c19,.slice p29 n29 c29,.slice p39 n39 c39,a9,z9] 61 (0,0)))
  (hR:wC.heap[w.heap.size+1]?=some (.cells zT 61 (0,0)))
  (h1:Sl Yy (fun b=>(S b/\b<w)\/X<b) wC (.slice cp x.columns.length cc) x.columns)
  (h2:Sl Zi (fun b=>(S b/\b<w)\/X<b) wC (.slice kp x.key.length kc) x.key)
  (h3:Sl Dz (fun b=>(S b/\b<w)\/X<b) wC (.slice rp x.refs.length rc) x.refs):
  TMidX S w X x cp cc kp kc rp rc k9 s19 n9 s29 p19 n19 c19 p29 n29 c29 p39 n39 c39 a9 z9 (((wC.setCell ⟨X,1,none⟩ (.slice cp x.columns.length cc)).setCell ⟨X,2,none⟩ (.slice kp x.key.length kc)).setCell ⟨X,3,none⟩ (.slice rp x.refs.length rc)):=by
 have e1:(wC.setCell ⟨X,1,none⟩ (.slice cp x.columns.length cc)).heap[X]?=some (.cells #[x.name,.slice cp x.columns.length cc,y2,y3,k9,.string s19,n9,.string s29,.slice p19 n19 c19,.slice p29 n29 c29,.slice p39 n39 c39,a9,z9] 61 (0,0)):=by rw [Qd _ _ _ _ _ _ hX];rfl
 have e2:((wC.setCell ⟨X,1,none⟩ (.slice cp x.columns.length cc)).setCell ⟨X,2,none⟩ (.slice kp x.key.length kc)).heap[X]?=some (.cells #[x.name,.slice cp x.columns.length cc,.slice kp x.key.length kc,y3,k9,.string s19,n9,.string s29,.slice p19 n19 c19,.slice p29 n29 c29,.slice p39 n39 c39,a9,z9] 61 (0,0)):=by rw [Qd _ _ _ _ _ _ e1];rfl
 have D:∀ b,b≠X->(((wC.setCell ⟨X,1,none⟩ (.slice cp x.columns.length cc)).setCell ⟨X,2,none⟩ (.slice kp x.key.length kc)).setCell ⟨X,3,none⟩ (.slice rp x.refs.length rc)).heap[b]?=wC.heap[b]?:=fun b hb=>by rw [Z4 hb,Z4 hb,Z4 hb]
 have G:∀ {T:Type} {r:Rd T} {v:Value} {xs:List T},Sl r (fun b=>(S b/\b<w)\/X<b) wC v xs->Sl r (fun b=>(S b/\b<w)\/w+1<b) (((wC.setCell ⟨X,1,none⟩ (.slice cp x.columns.length cc)).setCell ⟨X,2,none⟩ (.slice kp x.key.length kc)).setCell ⟨X,3,none⟩ (.slice rp x.refs.length rc)) v xs:=by
  intro T r v xs h
  exact (h.frame (fun b hb _=>D b (by rcases hb with hb | hb <;> omega))).mono (fun b _ hb=>by rcases hb with hb | hb;(exact .inl hb);(exact .inr Oa))
 exact ⟨((hb.setCell (by show w<=X;omega) _).setCell (by show w<=X;omega) _).setCell (by show w<=X;omega) _,by rw [Qd _ _ _ _ _ _ e2];rfl,by rw [D _ Oa];exact hR,G h1,G h2,G h3⟩
theorem Lm (S:Nat->Prop) (s:Sc) (cs:List Value) (x0:Bs) (w:World) (hs:Ug S w cs s):
  Calls prog 182 #[cs,sv x0] w (TableIsX S w (Ye s.tables x0)):=by
 obtain ⟨uv,tv,rfl,hu,cS⟩:=hs
 have ht:=cS.up
 obtain ⟨up,uc,rfl,_⟩:=hu.len
 obtain ⟨tp,eM,rfl,_⟩:=ht.len
 have HN:=Qq (fun W (hb:Below w w W)=>N5 _ s.tables _ x0 W (ht.below hb))
 clear hu ht cS
 cases hr:Ye s.tables x0 with
 | none=>
  rw [hr] at HN
  clear hr
  unfold sv at HN |-
  go_enter func182,ntmps182
  go_wp2_with fail
  refine (HN.out _ (Zl _ _ _)).mono ?_
  rintro e w1 ⟨cM,rfl,aL,Y⟩
  obtain ⟨bP,bN,cB,bZ,cG,cE,k9,aG,n9,aH,aD,aA,M,aE,aB,N,aF,aC,O,a9,z9,aN,_⟩:=Zr aL
  simp only [tcs] at aN
  subst aN
  have U:=(Y.block (w+1) Od).trans (Q1 w _ _)
  have aW:=Qq ((Zl w _ _).thn Y);have bK:=Qq U
  have aO:=Z3 U
  clear aL Y U
  go_upto_region 3 with fail
  generalize aK:w1.alloc _=w5
  have Z:=eqB aK (Zb _ _)
  have V:=kE Z aO bK.out
  have fz:=fun j=>Qg _ _ j _ _ V
  have rr:=fun j=>Qk _ _ j _ _ _ V
  obtain ⟨f0,f1,f2,f3,f4,f5,f6,f7,f8,f9,bQ,bR,bS⟩:=P6 fz
  obtain ⟨r0,r1,r2,r3,r4,r5,r6,r7,r8,r9,aS,aT,aU⟩:=P6 rr
  simp only [Qa,Qb,Qc] at r0 r1 r2 r3 r4 r5 r6 r7 r8 r9 aS aT aU
  have aJ:=Qq (aW.out.thn Z);have bL:=Qq V
  clear fz rr V Z aK
  go_wp2_with fail
  obtain ⟨W,hW⟩:=eX (Vt w5 (w+1) Oo Ot Ot Ot On Oo On Oo Ot Ot Ot On On)
  have q:∀ j,W.cell? ⟨w+1,j,none⟩=zT[j]?:=fun j=>by rw [<- hW];exact U6 bL.out j
  have L:Below w w W:=by rw [<- hW];exact Vs aJ.out Oa
  show bodyPost _ _ _ _ _ (Vt w5 (w+1) Oo Ot Ot Ot On Oo On Oo Ot Ot Ot On On)
  rw [hW]
  have aI:=Qq L
  obtain ⟨q0,q1,q2,q3,q4,q5,q6,q7,q8,q9,aP,aQ,aR⟩:=P6 q
  simp only [Qa,Qb,Qc] at q0 q1 q2 q3 q4 q5 q6 q7 q8 q9 aP aQ aR
  clear hW L q r0 r1 r2 r3 r4 r5 r6 r7 r8 r9 aS aT aU f0 f1 f2 f3 f4 f5 f6 f7 f8 f9 bQ bR bS
  refine Q2 (v:=.tuple #[.agg zT,.bool false]) (by simp [results,results182,go_sem,q0,q1,q2,q3,q4,q5,q6,q7,q8,q9,aP,aQ,aR]) rfl ⟨[Oo,Ot,Ot,Ot,On,Oo,On,Oo,Ot,Ot,Ot,On,On],rfl,Du _ _,aI.out⟩
 | some x=>
  rw [hr] at HN
  clear hr
  unfold sv at HN |-
  go_enter func182,ntmps182
  go_wp2_with fail
  refine (HN.out _ (Zl _ _ _)).mono ?_
  rintro e w1 ⟨cM,rfl,aL,Y⟩
  rw [Option.getD_some] at aL
  have cT:Zg.R (fun b=>S b/\b<w) w1 cM x:=Zg.mono aL (fun b _ h=>h.1)
  obtain ⟨bP,bN,cB,bZ,cG,cE,k9,aG,n9,aH,aD,aA,M,aE,aB,N,aF,aC,O,a9,z9,aN,eD,bG,bH,bJ,cO⟩:=Zr cT
  simp only [tcs] at aN
  subst aN
  have U:=(Y.block (w+1) Od).trans (Q1 w _ _)
  have aW:=Qq ((Zl w _ _).thn Y);have bK:=Qq U
  have aO:=Z3 U
  obtain ⟨bC,bD,bE,dQ⟩:=Py bG bH bJ cO
  clear aL cT Y U bG bH bJ cO
  go_upto_region 4 with fail
  generalize aK:w1.alloc (.cells (Pj x bP bN cB bZ cG cE k9 aG n9 aH aD aA M aE aB N aF aC O a9 z9) 61)=w5
  have Z:=eqB aK (Zb _ _)
  have bT:=eqH (b:=w1.heap.size) aK (Qw _ _)
  have V:=kE Z aO bK.out
  obtain ⟨aJ,eN,bL⟩:=Px Z bT V
  obtain ⟨X,hX⟩:=eX (w1.heap.size)
  have D:=bT
  rw [hX] at D aO |-
  have eO:=Qq hX;have cL:=Qq D
  have aM:=Z3 D
  have v1:=Qk _ _ 1 _ _ _ D;have v2:=Qk _ _ 2 _ _ _ D;have v3:=Qk _ _ 3 _ _ _ D;have eF:=fA 1 D;have eG:=fA 2 D;have eH:=fA 3 D;simp only [Qa,Qb,Qc] at v1 v2 v3
  clear Z bT D V aK hX
  go_cut [30] (fun _ wx=>∃ cp cc kp kc rp rc,TMidX S w X x cp cc kp kc rp rc k9 aG n9 aH aD aA M aE aB N aF aC O a9 z9 wx)
  case first=>
   go_region_with (first
    | (go_at_call 113;refine (Hz _ _ x.columns _ (bC.out.below aJ.out.drew)).mono ?_;rintro e wA ⟨cp,cc,eV,rfl,cP,bU⟩;have G:=(bU.block X aM).trans cL.out;have a1:=Qk _ _ 1 _ _ _ G;have a2:=Qk _ _ 2 _ _ _ G;have a3:=Qk _ _ 3 _ _ _ G;have eP:=fA 1 G;have eQ:=fA 2 G;have eR:=fA 3 G;simp only [Qa,Qb,Qc] at a1 a2 a3;obtain ⟨aX,aZ,dS⟩:=Px G bU cP;clear G bU cP)
    | (go_at_call 150;refine (Dd _ _ x.key _ (bD.out.below (aJ.out.drew.thn aZ.out))).mono ?_;rintro e wB ⟨kp,kc,fB,rfl,cQ,bV⟩;have I:=(bV.block X (Z3 aX.out)).trans aX.out;have b1:=Qk _ _ 1 _ _ _ I;have b2:=Qk _ _ 2 _ _ _ I;have b3:=Qk _ _ 3 _ _ _ I;have eS:=fA 1 I;have eT:=fA 2 I;have eU:=fA 3 I;simp only [Qa,Qb,Qc] at b1 b2 b3;obtain ⟨aY,bA,dT⟩:=Px I bV cQ;clear I bV cQ)
    | (go_at_call 235;refine (cloneRef _ _ x.refs _ (bE.out.below ((aJ.out.drew.thn aZ.out).thn bA.out))).mono ?_;rintro e wC ⟨rp,rc,fC,rfl,cR,bW⟩;have J:=(bW.block X (Z3 aY.out)).trans aY.out;have c1:=Qk _ _ 1 _ _ _ J;have c2:=Qk _ _ 2 _ _ _ J;have c3:=Qk _ _ 3 _ _ _ J;have eW:=fA 1 J;have eY:=fA 2 J;have eZ:=fA 3 J;simp only [Qa,Qb,Qc] at c1 c2 c3;obtain ⟨dR,bB,dU⟩:=Px J bW cR;clear J bW cR))
   all_goals
    go_wp2_with fail
    go_meet
    exact ⟨_,_,_,_,_,_,tmid_ofX (y1:=.slice bP x.columns.length bN) (y2:=.slice cB x.key.length bZ) (y3:=.slice cG x.refs.length cE) aO (aW.out.thn (aJ.out.drew.thn (aZ.out.thn (bA.out.thn bB.out)))) dR.out
     (bB.out.block _ (by have:=Z3 aY.out;omega) |>.trans (bA.out.block _ (by have:=Z3 aX.out;omega) |>.trans (aZ.out.block _ (by have:=aM;show _<w5.heap.size;omega) |>.trans bL.out)))
     (((clSX dS.out (by have:=bC.out.len;obtain ⟨_,_,_,h⟩:=this;exact h) (by show X<w5;exact aM)).below bA.out).below bB.out) ((clSX dT.out (by have:=bD.out.len;obtain ⟨_,_,_,h⟩:=this;exact h) (Z3 aX.out)).below bB.out) (clSX dU.out (by have:=bE.out.len;obtain ⟨_,_,_,h⟩:=this;exact h) (Z3 aY.out))⟩
  obtain ⟨cp,cc,kp,kc,rp,rc,hT⟩:=hcut
  have HT:=Qq hT
  clear hT
  have fz:=fun j=>Qg _ _ j _ _ HT.out.res
  have rr:=fun j=>Qk _ _ j _ _ _ HT.out.res
  have xx:=fun j=>Qk _ _ j _ _ _ HT.out.box
  obtain ⟨f0,f1,f2,f3,f4,f5,f6,f7,f8,f9,bQ,bR,bS⟩:=P6 fz
  obtain ⟨r0,r1,r2,r3,r4,r5,r6,r7,r8,r9,aS,aT,aU⟩:=P6 rr
  obtain ⟨eI,x1,x2,x3,x4,x5,x6,x7,x8,x9,eJ,eK,eL⟩:=P6 xx
  simp only [Qa,Qb,Qc] at r0 r1 r2 r3 r4 r5 r6 r7 r8 r9 aS aT aU eI x1 x2 x3 x4 x5 x6 x7 x8 x9 eJ eK eL
  clear fz rr xx v1 v2 v3 eF eG eH
  go_wp2_with fail
  obtain ⟨W,hW⟩:=eX (Vt wc (w+1) x.name (.slice cp x.columns.length cc) (.slice kp x.key.length kc) (.slice rp x.refs.length rc) k9 (.string aG) n9 (.string aH) (.slice aD aA M) (.slice aE aB N) (.slice aF aC O) a9 z9)
  have q:∀ j,W.cell? ⟨w+1,j,none⟩=#[.string ⟨x.name.toArray⟩,.slice cp x.columns.length cc,.slice kp x.key.length kc,.slice rp x.refs.length rc,.int .i64 k9,.string aG,.int .i64 n9,.string aH,.slice aD aA M,.slice aE aB N,.slice aF aC O,.int .i64 a9,.int .i64 z9][j]?:=fun j=>by rw [<- hW];exact U6 HT.out.res j
  have bI:∀ b,b≠w.heap.size+1->W.heap[b]?=wc.heap[b]?:=fun b hb=>by rw [<- hW];exact Ko hb
  have L:Below w w W:=by rw [<- hW];exact Vs HT.out.below Oa
  show bodyPost _ _ _ _ _ (Vt wc (w+1) x.name (.slice cp x.columns.length cc) (.slice kp x.key.length kc) (.slice rp x.refs.length rc) k9 (.string aG) n9 (.string aH) (.slice aD aA M) (.slice aE aB N) (.slice aF aC O) a9 z9)
  rw [hW]
  have aI:=Qq L;have cK:=Qq bI
  obtain ⟨q0,q1,q2,q3,q4,q5,q6,q7,q8,q9,aP,aQ,aR⟩:=P6 q
  simp only [Qa,Qb,Qc] at q0 q1 q2 q3 q4 q5 q6 q7 q8 q9 aP aQ aR
  clear hW L bI q r0 r1 r2 r3 r4 r5 r6 r7 r8 r9 aS aT aU f0 f1 f2 f3 f4 f5 f6 f7 f8 f9 bQ bR bS
  have A:∀ {T:Type} {r:Rd T} {v:Value} {xs:List T},Sl r (fun b=>(S b/\b<w)\/w+1<b) wc v xs->Sl r (fun b=>S b\/w<=b) W v xs:=fun h=>(h.frame (fun b hb _=>cK.out b (by rcases hb with hb | hb <;> omega))).mono (fun b _ hb=>by rcases hb with hb | hb;(exact .inl hb.1);(exact .inr Oa))
  refine Q2 (v:=.tuple #[.agg (Pj x cp cc kp kc rp rc k9 aG n9 aH aD aA M aE aB N aF aC O a9 z9),.bool true]) (by simp [results,results182,go_sem,q0,q1,q2,q3,q4,q5,q6,q7,q8,q9,aP,aQ,aR]) rfl ⟨_,rfl,?_,aI.out⟩
  refine ⟨_,_,_,_,rfl,eD,A HT.out.cols,A HT.out.key,A HT.out.refs,?_⟩
  exact Yj.move dQ.out (fun b hb _=>(aI.out.block b hb.2).trans (aW.out.block b hb.2).symm) (fun b _ hb=>.inl hb.1)
def TableIs (w:World) (o:Option Tbl) (e:Ending) (w':World):Prop:=∃ cs',e=.returned (.tuple #[.agg cs'.toArray,.bool o.isSome])/\Zg.R (fun _=>True) w' cs' (o.getD Tbl.zero)/\Below w w w'
theorem Nm (S:Nat->Prop) (s:Sc) (cs:List Value) (x0:Bs) (w:World) (hs:Ug S w cs s):
  Calls prog 182 #[cs,sv x0] w (TableIs w (Ye s.tables x0)):=by
 refine (Lm S s cs x0 w hs).mono ?_
 rintro e w' ⟨D,h1,h2,h3⟩
 exact ⟨D,h1,Zg.mono h2 (fun _ _ _=>trivial),h3⟩
end Go.Proofs.YtlanplhphiikjaaGreatDoor
