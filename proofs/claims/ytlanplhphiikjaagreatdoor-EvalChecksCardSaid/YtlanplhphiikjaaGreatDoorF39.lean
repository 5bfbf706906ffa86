import Derived.Test.YtlanplhphiikjaaGreatDoorF38
set_option maxRecDepth 100000
set_option maxHeartbeats 400000000
namespace Go.Proofs.YtlanplhphiikjaaGreatDoor
open Go.RowKit Go.Shelf Go.Lib Tryz
inductive Ff (body:Ex) (xn:Bs):List Val->Nat->Except Int (List Val × Nat)->Prop
 | nil (l:Nat):Ff body xn [] l (.ok ([],l))
 | cons {u:Val} {us:List Val} {l k j:Nat} {v:Val} {vs:List Val} (h:Vx body [(xn,u)] l (.ok (v,k))) (hr:Ff body xn us k (.ok (vs,j))):Ff body xn (u::us) (l+1) (.ok (v::vs,j))
 | stop {u:Val} {us:List Val} {l:Nat} {c:Int} (h:Vx body [(xn,u)] l (.error c)):Ff body xn (u::us) (l+1) (.error c)
 | late {u:Val} {us:List Val} {l k:Nat} {v:Val} {c:Int} (h:Vx body [(xn,u)] l (.ok (v,k))) (hr:Ff body xn us k (.error c)):Ff body xn (u::us) (l+1) (.error c)
def GenMid (g m l:Nat) (us:List Val) (w2:World) (t11:Value) (wx:World):Prop:=∃ G p3 k3 p4 k4,t11=.pointer (some ⟨G,0,none⟩)/\wx.heap[G]?=some (.cells (vcs (Zm us) p3 k3 p4 k4).toArray 48 (0,0))/\Z5 (fun b=>b≠g/\w2<=b) wx (vcs (Zm us) p3 k3 p4 k4) (Zm us)/\MAt g m wx l/\Z6 (fun b=>b=g) g w2 wx/\w2.heap.size<=G
theorem Hf (S0:Nat->Prop) (g m:Nat) (ms:ByteArray) (cs:List Value) (nm:Bs) (n:Int) (s:Bs) (xn:Bs) (binds:List Bs) (body gen:Ex) (a z:Int) (l l1:Nat) (us:List Val) (r:Except Int (List Val × Nat)) (w:World)
  (hx0:Yj S0 w cs (.mk 10 nm n s [xn] binds [body,gen] a z)) (hS0:∀ b,S0 b->b≠g) (hM:MAt g m w l) (hxn:xn≠[]) (hul:us.length<=1000) (hgen:Vx gen [] l (.ok (Zm us,l1))) (hcmp:Ff body xn us l1 r):
  Calls prog 157 #[Om g,.agg #[.string ms,Ot],cs,On,Ot] w (AllIs (fun _=>False) g m w r):=by
 have Z:Yj (fun b=>S0 b/\b<w.heap.size) w cs _:=hx0.move (.refl _ _) (fun b hb h=>⟨h,hb⟩)
 obtain ⟨nv,bv,kv,fJ,_,_,cX,fI,eA⟩:=Yz.1 Z
 have fD:=Qq Z
 subst fJ
 obtain ⟨np,nc,rfl,_⟩:=cX.len
 obtain ⟨bp,bc,rfl,_⟩:=fI.len
 obtain ⟨kp,kc,rfl,_⟩:=eA.len
 obtain ⟨xb,L,cb,hU,hX,gA,_,hr,hc⟩:=eA.elem (i:=1) (x:=gen) rfl
 obtain rfl:kp=some ⟨xb,L,none⟩:=hU
 obtain ⟨ek,hH,en,hI,hD,gZ,gW,hE,hB,gX,hF,hC,gY,ea,ez,dZ⟩:=Yj.cells (show Yj _ w cb gen from hr)
 subst dZ
 have d0:=hc 0 _ rfl;have d1:=hc 1 _ rfl;have d2:=hc 2 _ rfl;have d3:=hc 3 _ rfl;have d4:=hc 4 _ rfl;have d5:=hc 5 _ rfl;have d6:=hc 6 _ rfl;have d7:=hc 7 _ rfl;have d8:=hc 8 _ rfl
 simp only [show Vv.k=9 from rfl,Nat.add_zero,Nat.one_mul] at d0 d1 d2 d3 d4 d5 d6 d7 d8
 obtain ⟨nb,cJ,hV,bB,dI⟩:=cX.str (i:=0) (x:=xn) rfl
 obtain rfl:np=some ⟨nb,cJ,none⟩:=hV
 rw [Nat.add_zero] at bB
 have jC:=hM.lt
 have fQ:nb≠g:=by
  obtain ⟨p',c',e1,_,h3⟩:=cX
  obtain ⟨b',iU,e2,hR,_,_⟩:=h3 Od
  simp only [Ql] at e1
  rw [e2] at e1
  have:=e1.1
  simp only [Qu,Addr.mk.injEq] at this
  rw [this.1];exact hS0 _ hR.1
 have fR:nb<w.heap.size:=Qv _ _ bB
 obtain ⟨HX,HM,bE,eL,eJ,gU⟩:=P0 (show Yj _ w _ gen from hr) hM hS0 hgen hcmp dI
 have hY:xb≠g:=hS0 xb gA.1
 have hq:(xn==[])=false:=by simpa using hxn
 have eQ:=Qq bB
 clear hx0 Z hS0 hM hgen hcmp cX fI eA hr hc gA hxn dI bB
 unfold sv at fD |-
 go_enter func157,ntmps157
 go_upto_region 1 with fail
 generalize cV:(w.alloc _).alloc _=w2
 have cB:=eqB cV (Zl _ _ _)
 have h0:=eqH (b:=w.heap.size) cV (Q0 _ _ _)
 have O:=eqH (b:=w.heap.size+1) cV (Q1 _ _ _)
 have c4:=rA4 O
 obtain ⟨H0,H1,HB⟩:=Px h0 O cB
 have dH:=Z3 h0;have cE:=Z3 O
 have jJ:=cB.size
 clear h0 O cB cV
 go_upto_region 3 with fail
 clear c4
 refine let_mvar% ?Lq1:=fun w':World=>Oi w' w 0 (.string ms)/\Oi w' w 1 Ot/\Oi w' (w+1) 6 (Ol xb L 2 kc)/\Oi w' xb (L+9) ek/\Oi w' xb (L+9+1) (.string hH)/\Oi w' xb (L+9+2) en/\Oi w' xb (L+9+3) (.string hI)/\Oi w' xb (L+9+4) (.slice hD gZ gW)/\Oi w' xb (L+9+5) (.slice hE hB gX)/\Oi w' xb (L+9+6) (.slice hF hC gY)/\Oi w' xb (L+9+7) ea/\Oi w' xb (L+9+8) ez/\Z6 (fun b=>b=g) g w2 w';?_
 have HS:∀ w',Z6 (fun b=>b=g) g w2 w'->?Lq1 w':=fun w' h=>by
  have h0:=(h.keep _ dH (by show w≠g;omega)).trans H0.out
  have O:=(h.keep _ cE (by show w+1≠g;omega)).trans H1.out
  have Z:=(h.keep _ Oa (by show xb≠g;exact hY)).trans (HB.out.block _ hX)
  exact ⟨(Qk _ _ 0 _ _ _ h0).trans rfl,(Qk _ _ 1 _ _ _ h0).trans rfl,(Qk _ _ 6 _ _ _ O).trans rfl,(World.cell?_of_block Z).trans d0,(World.cell?_of_block Z).trans d1,(World.cell?_of_block Z).trans d2,(World.cell?_of_block Z).trans d3,(World.cell?_of_block Z).trans d4,(World.cell?_of_block Z).trans d5,(World.cell?_of_block Z).trans d6,(World.cell?_of_block Z).trans d7,(World.cell?_of_block Z).trans d8,h⟩
 have aJ:∀ w',?Lq1 w'->Z6 (fun b=>b=g) g w2 w':=fun w' h=>h.2.2.2.2.2.2.2.2.2.2.2.2
 have HA:∀ w' o,?Lq1 w'->?Lq1 (w'.alloc o):=fun w' o h=>HS _ ((aJ w' h).trans (Z6.of_below (Zb w' o) (by have:=(aJ w' h).size;omega)))
 have HP:∀ w' a b c d e,?Lq1 w'->?Lq1 (Zn w' w2 a b c d e):=fun w' a b c d e h=>HS _ ⟨Z7 (aJ w' h).below Oa,fun x Z U=>(Za Oa).trans ((aJ w' h).keep x Z U)⟩
 unfold Zn at HP
 have gQ:=Qq (HS w2.drew (Z6.of_below (Qz w2 w2).drew Oa))
 have jA:=Qq (HS w2 (Z6.refl _ _ _))
 have iW:=Qq (fun w' (h:?Lq1 w')=>HS w'.drew ((aJ w' h).trans (Z6.of_below (Qz w' w').drew (by have:=(aJ w' h).size;omega))))
 obtain ⟨aB,aV,iV,iY⟩:=Py HS aJ HA HP
 clear HS aJ HA HP
 clear d0 d1 d2 d3 d4 d5 d6 d7 d8
 have dB:=Qq (fun W (h:Below w2 w2 W)=>eL.out _ (fun _=>False) g m ms (.slice none 0 0) _ W (HX.out.move (.of_below (HB.out.thn h)) P8) (Sl.nil _ _ _) (fun b h=>bE.out b h.1) (fun b h=>h.elim) ((HM.out.below HB.out).below h))
 go_cut [11] from 30 to 44 (fun iK wx=>GenMid g m l1 us w2 iK wx)
 case first=>
  have dO:=Qq (fun W (h:Below w2 w2 W) (hS:?Lq1 W)=>(dB.out W h).mono (R':=fun e cZ=>∃ p3 k3 p4 k4,e=.returned (.agg (vcs (Zm us) p3 k3 p4 k4).toArray)/\Z5 (fun b=>b≠g/\w2.heap.size<=b/\W.heap.size<=b) cZ (vcs (Zm us) p3 k3 p4 k4) (Zm us)/\MAt g m cZ l1/\Z6 (fun b=>b=g) g W cZ/\?Lq1 cZ) (by
   rintro e w5 ⟨cu,rfl,hu,aS,aD⟩
   obtain ⟨p3,k3,p4,k4,dZ,_⟩:=Z5.cells hu
   subst dZ
   exact ⟨p3,k3,p4,k4,rfl,hu.move (.refl _ _) (fun b _ h=>⟨h.1,by rcases h.2 with h | h;exact h.elim;(have:=h;have:=(aV.out _ hS).size;omega),by rcases h.2 with h | h;exact h.elim;exact h⟩),aS,aD,aB.out _ ((aV.out _ hS).trans aD)⟩))
  have dN:=Qq (Qz w2 w2).drew
  have V:=Qq (show ∀ W,?Lq1 W->?Lq1 W from fun W h=>h)
  have aZ:=Qq (show w2.drew.heap.size=w2.heap.size from rfl)
  have jH:IntKind.i64.wrap ((0:Int)+1)=1:=Oe
  have jI:IntKind.i64.wrap 1=1:=Oe
  clear dB
  simp only [vcs] at dO
  refine wp_region_held_drew (S:=?Lq1) Og gQ.out (fun D=>?_)
  refine tkD (v:=?_) 0 (fun J I=>?_) ?_;rotate_left
  ·(obtain ⟨c0,c1,c6,d0,d1,d2,d3,d4,d5,d6,d7,d8,_⟩:=V.out J I;go_simp;try with_reducible rfl)
  refine tkD (v:=?_) 1 (fun J I=>?_) ?_;rotate_left
  ·(obtain ⟨c0,c1,c6,d0,d1,d2,d3,d4,d5,d6,d7,d8,_⟩:=V.out J I;go_simp;try with_reducible rfl)
  refine tkD (v:=?_) 2 (fun J I=>?_) ?_;rotate_left
  ·(obtain ⟨c0,c1,c6,d0,d1,d2,d3,d4,d5,d6,d7,d8,_⟩:=V.out J I;go_simp;try with_reducible rfl)
  refine tkD (v:=?_) 3 (fun J I=>?_) ?_;rotate_left
  ·(obtain ⟨c0,c1,c6,d0,d1,d2,d3,d4,d5,d6,d7,d8,_⟩:=V.out J I;go_simp;try with_reducible rfl)
  refine tkD (v:=?_) 4 (fun J I=>?_) ?_;rotate_left
  ·(obtain ⟨c0,c1,c6,d0,d1,d2,d3,d4,d5,d6,d7,d8,_⟩:=V.out J I;go_simp;try with_reducible rfl)
  refine tkD (v:=?_) 5 (fun J I=>?_) ?_;rotate_left
  ·(obtain ⟨c0,c1,c6,d0,d1,d2,d3,d4,d5,d6,d7,d8,_⟩:=V.out J I;go_simp;try with_reducible rfl)
  refine tkD (v:=?_) 6 (fun J I=>?_) ?_;rotate_left
  ·(obtain ⟨c0,c1,c6,d0,d1,d2,d3,d4,d5,d6,d7,d8,_⟩:=V.out J I;go_simp;try with_reducible rfl)
  refine tkD (v:=?_) 7 (fun J I=>?_) ?_;rotate_left
  ·(obtain ⟨c0,c1,c6,d0,d1,d2,d3,d4,d5,d6,d7,d8,_⟩:=V.out J I;go_simp;try with_reducible rfl)
  generalize w2.drew=wd at D dN aZ |-
  have iB:w2.heap.size<=wd.heap.size:=Nat.le_of_eq aZ.out.symm
  have iS:wd.heap.size<=w2.heap.size:=Nat.le_of_eq aZ.out
  refine rsD [8,9] ?_
  refine rcD (fun K M=>?_) ?_
  ·go_simp
   refine (dO.out _ dN.out D).mono ?_
   rintro e w5 ⟨q3,m3,q4,m4,rfl,cG,aS,aD,aN⟩
   have iZ:=Qq aD;have eU:=Qq aN
   have gL:=Qq (aV.out _ aN)
   have hZ:=aD.size
   have eZ:=Qq cG;have eN:=Qq aS
   clear cG aS aD aN
   try dsimp only
   refine M.out _ _ eU.out (fun D=>?_)
   clear M K
   refine rdD 9 (fun K M=>?_) Qh
   go_simp
   generalize aO:World.alloc w5 _=w6
   have aR:=eqB aO (Zb _ _)
   have bF:Hid (w6.heap[w5.heap.size]?=some (.cells zV 48 (0,0))):=Qq (by rw [<- aO];exact Qw _ _)
   have Y:=Qq (gL.out.trans (Z6.of_below aR Oa))
   have dT:=Qq ((eZ.out.move (.refl _ _) (fun b hb h=>(⟨⟨h.1,h.2.1⟩,hb⟩:(b≠g/\w2.heap.size<=b)/\b<w5.heap.size))).move (S':=fun b=>b≠g/\w2.heap.size<=b/\b<w5.heap.size) (.of_below aR) (fun b _ h=>⟨h.1.1,h.1.2,h.2⟩))
   have aK:=Qq (eN.out.below aR)
   clear aR aO
   try dsimp only
   refine M.out _ _ (aB.out _ Y.out) (fun D=>?_)
   clear M K
   have aP:=bF.out
   obtain ⟨f0,f1,f2,f3,f4⟩:=frz5 aP
   obtain ⟨r0,r1,r2,r3,r4⟩:=row5 aP
   refine rdD 10 (fun K M=>?_) Qh
   go_simp
   have N:=Y.out
   have iA:=N.size
   have aE:Z6 (fun b=>b=g) g w2 (Zn w6 w5 (.int .i64 (Zm us).kind) (.int .i64 (Zm us).n) (.string ⟨(Zm us).s.toArray⟩) (.slice q3 (Zm us).names.length m3) (.slice q4 (Zm us).kids.length m4)):=⟨Z7 N.below Oa,fun b hb U=>(Za Oa).trans (N.keep b hb U)⟩
   have aQ:=Xm (a:=.int .i64 (Zm us).kind) (b:=.int .i64 (Zm us).n) (c:=.string ⟨(Zm us).s.toArray⟩) (d:=.slice q3 (Zm us).names.length m3) (e:=.slice q4 (Zm us).kids.length m4) bF.out
   have T:∀ k,k≠w5.heap.size->(Zn w6 w5 (.int .i64 (Zm us).kind) (.int .i64 (Zm us).n) (.string ⟨(Zm us).s.toArray⟩) (.slice q3 (Zm us).names.length m3) (.slice q4 (Zm us).kids.length m4)).heap[k]?=w6.heap[k]?:=fun k hk=>Za hk
   unfold Zn at aE aQ T
   refine M.out _ _ (aB.out _ aE) (fun D=>?_)
   refine wpAnyH_done Og ?_ _
   clear M K D f0 f1 f2 f3 f4 r0 r1 r2 r3 r4 aP
   generalize World.setCell _ _ _=w9 at aE aQ T |-
   go_wp2_with fail
   go_meet
   have fP:=Z3 HM.out.2.1
   exact ⟨w5.heap.size,q3,m3,q4,m4,rfl,aQ,Z5.move dT.out (fun b hb _=>T b (by have:=hb.2.2;omega)) (fun b _ h=>⟨h.1,h.2.1⟩),⟨(T _ Oa).trans aK.out.1,(T _ Oa).trans aK.out.2.1,aK.out.2.2⟩,aE,Oa⟩
  refine rcD (fun K M=>?_) Qh
  go_simp
  generalize aO:World.alloc wd _=w6
  have aR:=eqB aO (Zb _ _)
  have fC:Hid (w6.heap[wd.heap.size]?=some (.cells zV 48 (0,0))):=Qq (by rw [<- aO];exact Qw _ _)
  have eI:=Qq (dN.out.thn aR)
  have fN:=Z3 fC.out
  have dD:=Qq (aB.out w6 (Z6.of_below eI.out Oa))
  clear aR aO
  try dsimp only
  refine M.out _ _ dD.out (fun D=>?_)
  clear M K
  refine rdD 8 (fun K M=>?_) Qh
  go_simp
  refine (dO.out _ eI.out dD.out).mono ?_
  rintro e w8 ⟨q3,m3,q4,m4,rfl,cG,aS,aD,aN⟩
  have bF:=Qq ((aD.keep _ fN (by show wd≠g;omega)).trans fC.out)
  have Y:=Qq (aV.out _ aN);have eV:=Qq aN
  have dT:=Qq cG;have aK:=Qq aS
  clear cG aS aD aN
  try dsimp only
  refine M.out _ _ eV.out (fun D=>?_)
  clear M K
  have aP:=bF.out
  obtain ⟨f0,f1,f2,f3,f4⟩:=frz5 aP
  obtain ⟨r0,r1,r2,r3,r4⟩:=row5 aP
  refine rdD 10 (fun K M=>?_) Qh
  go_simp
  have N:=Y.out
  have iA:=N.size
  have aE:Z6 (fun b=>b=g) g w2 (Zn w8 wd (.int .i64 (Zm us).kind) (.int .i64 (Zm us).n) (.string ⟨(Zm us).s.toArray⟩) (.slice q3 (Zm us).names.length m3) (.slice q4 (Zm us).kids.length m4)):=⟨Z7 N.below Oa,fun b hb U=>(Za Oa).trans (N.keep b hb U)⟩
  have aQ:=Xm (a:=.int .i64 (Zm us).kind) (b:=.int .i64 (Zm us).n) (c:=.string ⟨(Zm us).s.toArray⟩) (d:=.slice q3 (Zm us).names.length m3) (e:=.slice q4 (Zm us).kids.length m4) bF.out
  have T:∀ k,k≠wd.heap.size->(Zn w8 wd (.int .i64 (Zm us).kind) (.int .i64 (Zm us).n) (.string ⟨(Zm us).s.toArray⟩) (.slice q3 (Zm us).names.length m3) (.slice q4 (Zm us).kids.length m4)).heap[k]?=w8.heap[k]?:=fun k hk=>Za hk
  unfold Zn at aE aQ T
  refine M.out _ _ (aB.out _ aE) (fun D=>?_)
  refine wpAnyH_done Og ?_ _
  clear M K D f0 f1 f2 f3 f4 r0 r1 r2 r3 r4 aP
  generalize World.setCell _ _ _=w9 at aE aQ T |-
  go_wp2_with fail
  go_meet
  have fP:=Z3 HM.out.2.1
  exact ⟨wd.heap.size,q3,m3,q4,m4,rfl,aQ,Z5.move dT.out (fun b hb _=>T b (by have:=hb.2.2;omega)) (fun b _ h=>⟨h.1,h.2.1⟩),⟨(T _ Oa).trans aK.out.1,(T _ Oa).trans aK.out.2.1,aK.out.2.2⟩,aE,Oa⟩
 obtain ⟨G,p3,k3,p4,k4,rfl,hG,hv,hm,hs,jB⟩:=hcut
 obtain ⟨w3,rfl⟩:∃ w3,w3=wc:=⟨_,rfl⟩
 have jK:=hs.size
 have fP:=Z3 HM.out.2.1
 have HI:=Qq (Hm _ us _ w3 hv)
 have fE:=(hs.keep _ cE (by show w+1≠g;omega)).trans H1.out
 have bB:=(World.cell?_of_block ((hs.keep nb Oa (by show nb≠g;exact fQ)).trans (HB.out.block _ fR))).trans eQ.out
 have c4:=Qk _ _ 4 _ _ _ fE
 simp only [vcs] at hG HI
 obtain ⟨iX,gM,gR⟩:=Px hG hm hs
 simp only [Qa,Qb,Qc] at c4
 obtain ⟨x0,x1,x2,x3,x4⟩:=row5 hG
 clear hG hv hm hs fE
 go_upto_region 9 with (go_at_call 210;refine HI.out.mono ?_;rintro e w4 ⟨ip,ic,rfl,fW,fH⟩;have eW:=Qq fW;have dM:=Qq fH;clear fW fH)
 clear x0 x1 x2 x3 x4 c4 bB
 obtain ⟨un,eD⟩:=eX (us.length)
 have jL:=dM.out.size
 have gN:=Qq (gM.out.below dM.out)
 have cQ:=Qq (gR.out.trans (Z6.of_below dM.out Oa):Z6 (fun b=>b=g) g w2 w4)
 have eM:=Qq ((show Sl Zc _ w4 (.slice ip us.length ic) us from eW.out).mono (S':=fun b=>(b≠g/\w2.heap.size<=b)/\b<w4.heap.size) (fun b hb h=>⟨h,hb⟩))
 rw [eD] at eM hul |-
 have eY:=Qq eD
 clear eD eW
 go_loopw [4,58] (fun o i wr=>∃ (k lk:Nat) (vs:List Val) (ap:Option Addr) (ac:Nat) (rk:Except Int (List Val × Nat)),k<=un/\i=.int .i64 k/\o=.slice ap k ac/\vs.length=k/\Aside (Ff body xn (us.drop k) lk rk/\r=Ux vs rk)/\Z6 (fun b=>b=g) g w4 wr/\MAt g m wr lk/\(∃ css,Own Zc 48 (fun b=>b≠g/\(False\/w.heap.size<=b)) w4 wr (.slice ap k ac) vs css)) (fun _ i _=>un - (intOf i).toNat)
 case atStart=>exact ⟨0,l1,[],none,0,r,Q3 _,rfl,rfl,rfl,⟨eJ.out,by cases r <;> rfl⟩,Z6.refl _ _ _,gN.out,[],Own.nil _ _ _ _ _⟩
 obtain ⟨k,lk,vs,ap,ac,rk,jG,rfl,rfl,fZ,hA,cU,fG,css,hO⟩:=hrel
 obtain ⟨aU,HO,dL,cR,eP⟩:=Pw cU hO hA.out fZ fG
 have iC:=cU.size
 clear hA fZ
 by_cases eB:k<un
 ·have jD:(0:Int)<=(k:Int):=Oa
  have jE:(k:Int)<(un:Int):=Oa
  have cW:k<us.length:=by rw [eY.out];exact eB
  obtain ⟨u,hu⟩:∃ u,us[k]?=some u:=⟨_,Qx cW⟩
  have fK:us.drop k=u::us.drop (k+1):=by rw [Qi cW];rw [Qx cW] at hu;cases hu;rfl
  have fX:Sl Zc (fun b=>(b≠g/\w2.heap.size<=b)/\b<w4.heap.size) wr (.slice ip un ic) us:=eM.out.frame (cU.agree (fun b h=>h.1.1))
  obtain ⟨ib,iT,q3,m3,q4,m4,rfl,jF,hv,x0,x1,x2,x3,x4⟩:=fX.val hu
  have HV:=Qq hv
  have bY:=dL.out.1
  rw [fK] at bY
  have dS:=Qq dL.out.2
  have eH:=Qq bY
  clear hu fK cW fX hv bY cU fG hO
  go_upto_region 11 with fail
  generalize dW:World.alloc wr _=w5
  have dX:=eqB dW (Zb _ _)
  have eE:=eqH (b:=wr.heap.size) dW (Qw _ _)
  have gT:=Qq eE;have aX:=Qq dX
  have hZ:=dX.size
  have fM:=Z3 eE
  clear dX eE dW x0 x1 x2 x3 x4
  have dY:∃ l',lk=l'+1:=by
   have h:=eH.out
   cases h <;> exact ⟨_,rfl⟩
  obtain ⟨l',rfl⟩:=dY
  have gK:=Qq (Jt g m w5 l' (eP.out.below aX.out))
  go_upto_region 12 with (go_at_call 152;refine gK.out.mono ?_;rintro e w6 ⟨rfl,fO,fU⟩;have gO:=Qq fO;have aY:=Qq fU;clear fO fU)
  have jM:=aY.out.size
  have dC:=Qq (fun b (e:some b=(Value.slice ap k ac).ownBlock)=>HO.out.row.lt b e.symm)
  refine let_mvar% ?Lq2:=fun w':World=>Oi w' w 0 (.string ms)/\Oi w' w 1 Ot/\Oi w' nb cJ xn/\Pb w' (w+1) (.int .i64 10) nm n s (Ol nb cJ 1 nc) (.slice bp binds.length bc) (Ol xb L 2 kc) a z ((Pf w' wr u.kind u.n u.s (.slice q3 u.names.length m3) (.slice q4 u.kids.length m4):Prop));?_
  have HS:∀ w',(∀ b,b<w5.heap.size->b≠g->some b≠(Value.slice ap k ac).ownBlock->w'.heap[b]?=w6.heap[b]?)->?Lq2 w':=by
   intro w' h
   have k6:∀ b,b<w5.heap.size->b≠g->some b≠(Value.slice ap k ac).ownBlock->w'.heap[b]?=w5.heap[b]?:=fun b hb U ho=>(h b hb U ho).trans (aY.out.keep b hb U)
   have kw:∀ b,b<w2.heap.size->b≠g->w'.heap[b]?=w2.heap[b]?:=fun b hb U=>(k6 b Oa U (fun e=>by have:=(dC.out b e).1;omega)).trans ((aX.out.block b Oa).trans ((aU.out.keep b Oa U).trans (cQ.out.keep b hb U)))
   have h0:=(kw _ dH Oa).trans H0.out
   have O:=(kw _ cE Oa).trans H1.out
   have U:=(World.cell?_of_block ((kw nb Oa fQ).trans (HB.out.block _ fR))).trans eQ.out
   have Z:=(k6 _ fM Oa (fun e=>by have:=(dC.out _ e).2;omega)).trans gT.out
   exact ⟨(Qk _ _ 0 _ _ _ h0).trans rfl,(Qk _ _ 1 _ _ _ h0).trans rfl,U,(Qk _ _ 0 _ _ _ O).trans rfl,(Qk _ _ 1 _ _ _ O).trans rfl,(Qk _ _ 2 _ _ _ O).trans rfl,(Qk _ _ 3 _ _ _ O).trans rfl,(Qk _ _ 4 _ _ _ O).trans rfl,(Qk _ _ 5 _ _ _ O).trans rfl,(Qk _ _ 6 _ _ _ O).trans rfl,(Qk _ _ 7 _ _ _ O).trans rfl,(Qk _ _ 8 _ _ _ O).trans rfl,(Qk _ _ 0 _ _ _ Z).trans rfl,(Qk _ _ 1 _ _ _ Z).trans rfl,(Qk _ _ 2 _ _ _ Z).trans rfl,(Qk _ _ 3 _ _ _ Z).trans rfl,(Qk _ _ 4 _ _ _ Z).trans rfl⟩
  have aB:=Qq HS
  have V:=Qq (show ∀ W,?Lq2 W->?Lq2 W from fun W h=>h)
  have cD:Below w6 w6 w6.drew:=(Qz _ _).drew
  have gS:=Qq (HS w6.drew (fun _ _ _ _=>rfl))
  have eK:=Qq cD
  have fA:=Qq (HV.out.move ((Z6.agree (Z6.trans (Z6.of_below aX.out Oa) (aY.out.trans (Z6.of_below cD Oa))) (fun b h=>h.1.1)):Ys (fun b=>(b≠g/\w2.heap.size<=b)/\b<w4.heap.size) wr w6.drew) P8)
  have eS:=Qq (((HO.out.below aX.out).gstep aY.out Oa (fun b h=>h.1)).below cD)
  have fB:=Qq (Mu _ ms xn u _ w6.drew fA.out gU.out)
  have eO:=Qq (gO.out.below cD)
  have aZ:=Qq (show w6.drew.heap.size=w6.heap.size from rfl)
  clear HS cD
  refine wp_region_held_drew (S:=?Lq2) Og gS.out (fun D=>?_)
  refine tkD (v:=?_) 0 (fun J I=>?_) ?_;rotate_left
  ·(obtain ⟨c0,c1,cn,e0,e1,e2,e3,e4,e5,e6,e7,e8,y0,y1,y2,y3,y4⟩:=V.out J I;go_simp;try with_reducible rfl)
  refine tkD (v:=?_) 1 (fun J I=>?_) ?_;rotate_left
  ·(obtain ⟨c0,c1,cn,e0,e1,e2,e3,e4,e5,e6,e7,e8,y0,y1,y2,y3,y4⟩:=V.out J I;go_simp;try with_reducible rfl)
  refine tkD (v:=?_) 2 (fun J I=>?_) ?_;rotate_left
  ·(obtain ⟨c0,c1,cn,e0,e1,e2,e3,e4,e5,e6,e7,e8,y0,y1,y2,y3,y4⟩:=V.out J I;go_simp;try with_reducible rfl)
  refine tkD (v:=?_) 3 (fun J I=>?_) ?_;rotate_left
  ·(obtain ⟨c0,c1,cn,e0,e1,e2,e3,e4,e5,e6,e7,e8,y0,y1,y2,y3,y4⟩:=V.out J I;go_simp;try with_reducible rfl)
  refine tkD (v:=?_) 4 (fun J I=>?_) ?_;rotate_left
  ·(obtain ⟨c0,c1,cn,e0,e1,e2,e3,e4,e5,e6,e7,e8,y0,y1,y2,y3,y4⟩:=V.out J I;go_simp;try with_reducible rfl)
  refine tkD (v:=?_) 5 (fun J I=>?_) ?_;rotate_left
  ·(obtain ⟨c0,c1,cn,e0,e1,e2,e3,e4,e5,e6,e7,e8,y0,y1,y2,y3,y4⟩:=V.out J I;go_simp;try with_reducible rfl)
  refine tkD (v:=?_) 6 (fun J I=>?_) ?_;rotate_left
  ·(obtain ⟨c0,c1,cn,e0,e1,e2,e3,e4,e5,e6,e7,e8,y0,y1,y2,y3,y4⟩:=V.out J I;go_simp;try with_reducible rfl)
  refine tkD (v:=?_) 7 (fun J I=>?_) ?_;rotate_left
  ·(obtain ⟨c0,c1,cn,e0,e1,e2,e3,e4,e5,e6,e7,e8,y0,y1,y2,y3,y4⟩:=V.out J I;go_simp;try with_reducible rfl)
  refine tkD (v:=?_) 9 (fun J I=>?_) ?_;rotate_left
  ·(obtain ⟨c0,c1,cn,e0,e1,e2,e3,e4,e5,e6,e7,e8,y0,y1,y2,y3,y4⟩:=V.out J I;go_simp;try with_reducible rfl)
  refine tkD (v:=?_) 10 (fun J I=>?_) ?_;rotate_left
  ·(obtain ⟨c0,c1,cn,e0,e1,e2,e3,e4,e5,e6,e7,e8,y0,y1,y2,y3,y4⟩:=V.out J I;go_simp;try with_reducible rfl)
  refine tkD (v:=?_) 11 (fun J I=>?_) ?_;rotate_left
  ·(obtain ⟨c0,c1,cn,e0,e1,e2,e3,e4,e5,e6,e7,e8,y0,y1,y2,y3,y4⟩:=V.out J I;go_simp;try with_reducible rfl)
  refine tkD (v:=?_) 12 (fun J I=>?_) ?_;rotate_left
  ·(obtain ⟨c0,c1,cn,e0,e1,e2,e3,e4,e5,e6,e7,e8,y0,y1,y2,y3,y4⟩:=V.out J I;go_simp;try with_reducible rfl)
  generalize w6.drew=wd at D eK fA eS fB eO aZ |-
  refine rdD 8 (fun K M=>?_) Qh
  go_simp
  have iB:=aZ.out
  refine fB.out.mono ?_
  rintro e w7 ⟨p5,c5,rfl,fV,cC⟩
  have aH:=Qq (eK.out.thn cC)
  have jN:=cC.size
  have eT:=Qq (aB.out w7 (fun b hb _ _=>aH.out.block b Oa))
  have bC:=Qq (fun r' (hev:Vx body [(xn,u)] l' r')=>Hh (fun b=>S0 b/\b<w.heap.size) _ g m w4 ms (.slice p5 1 c5) _ nm n s xn binds body gen a z [(xn,u)] l' r' ap k ac vs css w7 (fD.out.move (fun b hb eB=>by
    have cB:b<w2.heap.size:=Oa
    have U:=bE.out b hb.1
    exact (aH.out.block b Oa).trans ((aY.out.keep b Oa U).trans ((aX.out.block b Oa).trans ((aU.out.keep b Oa U).trans ((cQ.out.keep b cB U).trans (HB.out.block b eB)))))) P8) fV (fun b h=>⟨bE.out b h.1,by have:=h.2;omega⟩)
   (fun b h=>⟨by rcases h with h | h;exact h.1.1;omega,fun e=>by have O:=HO.out.row.lt b e.symm;rcases h with h | h;have:=h.2;omega;omega⟩) (fun b=>b≠g/\(False\/w.heap.size<=b)) (fun b h=>h.1) (fun b O h2=>⟨O,.inr (by rcases h2 with (h2 | h2) | h2;have:=h2.1.2;omega;omega;omega)⟩) (eO.out.below cC) Oa Oa Oa hev cR.out Oa (eS.out.below cC))
  clear fV cC
  try dsimp only
  refine M.out _ _ eT.out (fun D=>?_)
  clear M K
  refine rdD 13 (fun K M=>?_) Qh
  go_simp
  have dG:GB g w4 w4 w7:=(GB.of_step aU.out (Q4 _)).trans ((GB.of_below (aX.out.mono iC) Oa).trans ((GB.of_step aY.out Oa).trans (GB.of_below (aH.out.mono Oa) Oa)))
  have dP:=Qq dG
  clear dG
  have bY:=eH.out
  cases bY with
  | stop h=>
   rename_i c0
   have cF:=dS.out
   simp only [Ux] at cF
   subst cF
   refine (bC.out _ h).mono ?_
   rintro e w8 ⟨rfl,hT⟩
   have hk:=dP.out.trans hT
   exact ⟨rfl,rfl,(Z6.of_below HB.out Oa).trans (cQ.out.trans ⟨hk.below,hk.keep⟩)⟩
  | cons h hrest=>
   rename_i k2 j2 v2 vs2
   have aL:Hid (∃ aF,Ff body xn (us.drop (k+1)) k2 aF/\r=Ux (vs++[v2]) aF):=Qq ⟨_,hrest,by rw [dS.out];simp [Ux]⟩
   refine (bC.out _ h).mono ?_
   rintro e w8 ⟨p8,c8,bH,rfl,cA,bZ,N,dV⟩
   obtain ⟨dR,dQ,Y⟩:=Px cA bZ (dP.out.trans N)
   have aI:=Qq (aB.out w8 (fun b hb U ho=>(dV b Oa U ho).trans (aH.out.block b Oa)))
   clear cA bZ N h hrest bC
   try dsimp only
   refine M.out _ _ aI.out (fun D=>?_)
   clear M K
   refine rdD 14 (fun K M=>?_) Qh
   go_simp
   try dsimp only
   refine M.out _ _ aI.out (fun D=>?_)
   clear M K
   refine wpAnyH_done Og ?_ _
   clear D
   go_wp2_with fail
   go_roundw
   case measure=>simp [intOf];omega
   case rel=>
    obtain ⟨aF,O,h2⟩:=aL.out
    exact ⟨k+1,k2,vs++[v2],p8,c8,aF,Oa,by go_num,rfl,by have:=cR.out;simp [this],⟨O,h2⟩,⟨Y.out.below,Y.out.keep⟩,dQ.out,bH,dR.out⟩
  | late h hrest=>
   rename_i k2 v2 c2
   have aL:Hid (∃ aF,Ff body xn (us.drop (k+1)) k2 aF/\r=Ux (vs++[v2]) aF):=Qq ⟨_,hrest,by rw [dS.out];simp [Ux]⟩
   refine (bC.out _ h).mono ?_
   rintro e w8 ⟨p8,c8,bH,rfl,cA,bZ,N,dV⟩
   obtain ⟨dR,dQ,Y⟩:=Px cA bZ (dP.out.trans N)
   have aI:=Qq (aB.out w8 (fun b hb U ho=>(dV b Oa U ho).trans (aH.out.block b Oa)))
   clear cA bZ N h hrest bC
   try dsimp only
   refine M.out _ _ aI.out (fun D=>?_)
   clear M K
   refine rdD 14 (fun K M=>?_) Qh
   go_simp
   try dsimp only
   refine M.out _ _ aI.out (fun D=>?_)
   clear M K
   refine wpAnyH_done Og ?_ _
   clear D
   go_wp2_with fail
   go_roundw
   case measure=>simp [intOf];omega
   case rel=>
    obtain ⟨aF,O,h2⟩:=aL.out
    exact ⟨k+1,k2,vs++[v2],p8,c8,aF,Oa,by go_num,rfl,by have:=cR.out;simp [this],⟨O,h2⟩,⟨Y.out.below,Y.out.keep⟩,dQ.out,bH,dR.out⟩
 have fL:k=un:=Oa
 subst fL
 have fF:=dL.out
 rw [List.drop_of_length_le (by rw [eY.out];exact Q4 _)] at fF
 obtain ⟨hQ,cF⟩:=fF
 cases hQ
 simp only [Ux,List.append_nil] at cF
 subst cF
 go_wp2_with fail
 go_ret
 rw [<- cR.out] at HO |-
 exact ⟨ap,ac,css,rfl,HO.out.move Oa (fun _ _ _=>rfl),eP.out,(Z6.of_below HB.out Oa).trans (cQ.out.trans aU.out)⟩
def compR:Except Int (List Val × Nat)->Except Int (Val × Nat)
 | .ok (vs,j)=>.ok (Zm vs,j)
 | .error c=>.error c
theorem Hq (nm:Bs) (n:Int) (s:Bs) (xn:Bs) (binds:List Bs) (body gen:Ex) (a z:Int) (l l1:Nat) (us:List Val) (r:Except Int (List Val × Nat)) (hxn:xn≠[]) (hul:us.length<=1000) (hgen:Vx gen [] l (.ok (Zm us,l1))) (hcmp:Ff body xn us l1 r)
  (hflat:∀ vs j,r=.ok (vs,j)->(∀ v ∈ vs,v.kids=[])/\vs.length<=4096):No (.slice none 0 0) (.mk 10 nm n s [xn] binds [body,gen] a z) [] (l+1) (compR r):=by
 intro S0 S1 g m ms cs w aQ bD V bC hM
 have hx:Yj (fun b=>S0 b/\b<w) w cs _:=aQ.move (.refl _ _) (fun b hb h=>⟨h,hb⟩)
 have aT:=Qq (fun W (hb:Below w w W)=>Jt g m W l (hM.below hb))
 have HN:=Qq U2
 have aA:=Qq (fun W (hb:Z6 (fun b=>b=g) g w W) (hm:MAt g m W l)=>Hf _ g m ms _ nm n s xn binds body gen a z l l1 us r W (hx.move (hb.agree (fun b h=>V b h.1)) P8) (fun b h=>V b h.1) hm hxn hul hgen hcmp)
 have bE:=hM.lt
 obtain ⟨nv,bv,kv,rfl,_,_,aM,aI,aJ⟩:=Yz.1 hx
 obtain ⟨np,nc,rfl,_⟩:=aM.len
 obtain ⟨bp,bc,rfl,_⟩:=aI.len
 obtain ⟨kp,kc,rfl,_⟩:=aJ.len
 have aU:=Qq hflat
 clear hx aQ bD V bC hM aM aI aJ hgen hcmp hxn hflat
 unfold sv at aA |-
 go_enter func107,ntmps107
 go_upto_region 1 with fail
 generalize I:((w.alloc _).alloc _).alloc _=w3
 have aH:=eqB I (Yr _ _ _ _)
 have h0:=eqH (b:=w.heap.size) I (Ze _ _ _ _)
 have h1:=eqH (b:=w.heap.size+1) I (Zf _ _ _ _)
 have D:=eqH (b:=w.heap.size+1+1) I (Z9 _ _ _ _)
 obtain ⟨H0,H1,H2,HB⟩:=Py h0 h1 D aH
 clear h0 h1 D aH I
 go_upto_region 2 with (go_at_call 152;refine (aT.out _ HB.out).mono ?_;rintro e w4 ⟨rfl,aK,aN⟩;have aW:=Qq aK;have J:=Qq aN;clear aK aN)
 have h0:=(J.out.keep _ (Z3 H0.out) (by show w≠g;omega)).trans H0.out
 have h1:=(J.out.keep _ (Z3 H1.out) (by show w+1≠g;omega)).trans H1.out
 have D:=(J.out.keep _ (Z3 H2.out) (by show w+1+1≠g;omega)).trans H2.out
 obtain ⟨c0,c1,c2,c3,c4,c5,c6,c7,c8⟩:=row9 h1
 obtain ⟨d0,d1⟩:=row2 h0
 have aC:=Qq D;have G:=Qq ((Z6.of_below HB.out Oa).trans J.out:Z6 (fun b=>b=g) g w w4)
 clear h0 h1 D
 have M:=Z3 aC.out
 have HC:=Qq (aA.out w4 G.out aW.out)
 cases r with
 | error c=>
  go_wp2_with (go_at_call 155;refine (HN.out _).mono ?_;rintro e w' ⟨rfl,rfl⟩)
  refine HC.out.mono ?_
  rintro e w5 ⟨rfl,hs⟩
  exact ⟨rfl,rfl,G.out.trans hs⟩
 | ok o=>
  obtain ⟨vs,k⟩:=o
  obtain ⟨hf,aP⟩:=aU.out vs k rfl
  have aV:=Qq (fun S p cap W (h:Sl Zc S W (.slice p vs.length cap) vs)=>Gm S vs p cap W h hf aP)
  go_wp2_with (go_at_call 155;refine (HN.out _).mono ?_;rintro e w' ⟨rfl,rfl⟩)
  refine HC.out.mono ?_
  rintro e w5 ⟨U,T,css,rfl,hO,aL,L⟩
  have bI:=L.size
  have Z:=hO.sl (S':=fun b=>b≠g/\(False\/w4<=b)) Oa (fun b hb=>⟨by have:=G.out.size;omega,.inr hb⟩) (fun b _ h=>h)
  have D:=(L.keep _ M (by show w+1+1≠g;omega)).trans aC.out
  obtain ⟨aZ,aX,bA,aE⟩:=Py D aL L Z
  have aB:=Qq (aV.out _ _ _ w5 Z)
  obtain ⟨q,hq⟩:=eX (vs.length)
  have HQ:=Qq hq
  rw [hq] at aB aE aP |-
  clear hO aL L Z D hq hf
  go_wp2_with fail
  refine aB.out.mono ?_
  rintro e w6 ⟨rfl,Y⟩
  have D:=kB Y aZ.out
  have aD:=Qq D;have O:=Qq Y
  obtain ⟨r0,r1,r2,r3,r4⟩:=row5 D
  obtain ⟨f0,f1,f2,f3,f4⟩:=frz5 D
  clear Y D
  go_wp2_with fail
  show bodyPost _ _ _ _ _ (Zn w6 (w+1+1) (.int .i64 5) On Oo Ot (.slice U q T))
  have aO:Z6 (fun b=>b=g) g w4 w6:=bA.out.trans (Z6.of_below O.out (Ob G.out.size))
  have bG:Z5 (fun b=>b≠g/\(False\/w4<=b)) w6 (vcs (Zm vs) none 0 U T) (Zm vs):=by
   have h:=Zu (s:=[]) (k:=5) (n:=0) Od (Sl.nil Zi _ _) (aE.out.below O.out)
   have e:vcs (Zm vs) none 0 U T=[.int .i64 5,.int .i64 0,sv [],.slice none 0 0,.slice U q T]:=by rw [<- HQ.out];rfl
   rw [e]
   exact h
  have N:=Vn (R:=w.heap.size+1+1) (S:=S1) (S':=fun _=>False) (w:=w) Oa M G.out (fun b h=>h.elim) bG (aX.out.below O.out) aO aD.out bE
  have e2:(Zn w6 (w+1+1) (.int .i64 (Zm vs).kind) (.int .i64 (Zm vs).n) (.string ⟨(Zm vs).s.toArray⟩) (.slice none (Zm vs).names.length 0) (.slice U (Zm vs).kids.length T))=Zn w6 (w+1+1) (.int .i64 5) On Oo Ot (.slice U q T):=by
   rw [<- HQ.out];rfl
  rw [e2] at N
  refine Q2 (v:=.agg #[.int .i64 5,On,Oo,Ot,.slice U q T]) (by simp [results,results107,go_sem,Z8 aD.out]) rfl ⟨_,?_,N⟩
  rw [<- HQ.out];rfl
end Go.Proofs.YtlanplhphiikjaaGreatDoor
