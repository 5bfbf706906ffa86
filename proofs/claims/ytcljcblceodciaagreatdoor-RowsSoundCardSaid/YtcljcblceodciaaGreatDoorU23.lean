import Derived.Test.YtcljcblceodciaaGreatDoorU22
set_option maxRecDepth 100000
set_option maxHeartbeats 400000000
namespace Go.Proofs.YtcljcblceodciaaGreatDoor
open Go.RowKit Go.Shelf Go.Lib Tryz
theorem rsat_any (S S0:Nat->Prop) (d:Nat) (t:Tbl) (row:Val) (ct cr:List Value) (w:World) (he:Xl d t.check) (ht:Zm.R S w ct t) (hr:Z9 S0 w cr row) (hl:row.names.length<=row.kids.length) (hd:row.kids.length+d<=1000) (hb:∀ v ∈ row.kids,Y0 v):
  Calls prog 51 #[ct,cr] w (Ph w):=by
 obtain ⟨bG,bF,bI,bH,bQ,bP,k0,aM,n0,aN,aJ,aH,A,aK,n20,U,aL,aI,V,a0,z0,rfl,_,_,_,_,G⟩:=Zt ht
 obtain ⟨q3,l3,q4,l4,aG,hn,hk,_⟩:=Z9.cells hr
 simp only [vcs] at aG
 subst aG
 unfold tcs
 have HS:=Qq (fun W (hW:Below w w W)=>Bq t.check S (Cp k0 aM n0 aN aJ aH A aK n20 U aL aI V a0 z0) W (G.move (.of_below hW) Qje))
 have HE:=Qq (fun W (hW:Below w w W)=>he (fun _=>True) (Cp k0 aM n0 aN aJ aH A aK n20 U aL aI V a0 z0) _ _ row.names row.kids W (G.move (.of_below hW) (fun _ _ _=>trivial)) ((hn.below hW).mono (fun _ _ _=>trivial)) ((hk.below hW).mono (fun _ _ _=>trivial)) hl hd hb)
 clear ht hr G hn hk he hb hl hd
 go_enter func51,ntmps51
 go_upto_region 1 with fail
 generalize J:(w.alloc _).alloc _=W1
 have aC:=eqB J (Zu _ _ _)
 have O:=eqH (b:=w.heap.size) J (Q5 _ _ _)
 have Y:=eqH (b:=w.heap.size+1) J (Q6 _ _ _)
 obtain ⟨I,aS,aR⟩:=Qjq aC O Y
 obtain ⟨c0,c1,c2,c3,c4,c5,c6,c7,c8,c9,A,M,N⟩:=row13 O
 clear J aC O Y
 go_upto_region 2 with (go_at_call 108;refine (HS.out _ I.out).mono ?_;rintro e w5 ⟨⟨b,rfl⟩,aD⟩;have D:=Qq aD;clear aD)
 clear c0 c1 c2 c3 c4 c5 c6 c7 c8 c9 A M N
 cases b with
 | false=>
  go_wp2_with fail
  go_ret
  exact ⟨⟨_,rfl⟩,I.out.thn D.out⟩
 | true=>
  have aA:=kB D.out aS.out
  have Z:=kB D.out aR.out
  obtain ⟨c0,c1,c2,c3,c4,c5,c6,c7,c8,c9,A,M,N⟩:=row13 aA
  obtain ⟨r0,r1,r2,r3,r4⟩:=row5 Z
  clear aA Z
  go_upto_region 5 with (go_at_call 109;refine (HE.out _ (I.out.thn D.out)).mono ?_;rintro e w7 ⟨k7,n7,s7,bN,bL,bJ,bO,bM,bK,b7,rfl,_,aE⟩;have aP:=Qq aE;clear aE)
  generalize T:w7.alloc _=W8
  have aF:=eqB T (Zg _ _)
  have aB:=eqH (b:=w7.heap.size) T (Qw _ _)
  have aQ:=Qq (((I.out.thn D.out).thn aP.out).thn aF)
  obtain ⟨v0,v1,v2,v3,v4⟩:=row5 aB
  clear T aF aB c0 c1 c2 c3 c4 c5 c6 c7 c8 c9 A M N r0 r1 r2 r3 r4
  have bD:b7=false\/(b7=true/\(k7==2)=false)\/(b7=true/\(k7==2)=true):=by cases b7 <;> cases (k7==2) <;> simp
  rcases bD with rfl | ⟨rfl,hq⟩ | ⟨rfl,hq⟩
  all_goals
   go_wp2_with fail
   go_ret
   exact ⟨⟨_,rfl⟩,aQ.out⟩
theorem Sl.ty {S:Nat->Prop} {w:World} {p:Option Addr} {n cap:Nat} {xs:List Ty} (h:Sl Jk S w (.slice p n cap) xs) {i:Nat} {x:Ty} (hx:xs[i]?=some x):
  ∃ b off tk ts tn t3 n3 l3 t4 n4 l4,p=some ⟨b,off,none⟩/\b<w.heap.size/\X5 S w [.int .i64 tk,.string ts,.int .i64 tn,.slice t3 n3 l3,.slice t4 n4 l4] x/\Qjr w b (off+i*5) (.int .i64 tk) (.string ts) (.int .i64 tn) (.slice t3 n3 l3) (.slice t4 n4 l4):=by
 obtain ⟨q,I,e,hl,hh⟩:=h
 have G:xs≠[]:=by intro h0;subst h0;simp at hx
 obtain ⟨b,off,hq,hS,hb,hc⟩:=hh G
 obtain ⟨cs,A,hr⟩:=hc i x hx
 have D:X5 S w cs x:=hr
 obtain ⟨tk,ts,tn,t3,n3,l3,t4,n4,l4,rfl⟩:=D.cells
 cases e
 exact ⟨b,off,tk,ts,tn,t3,n3,l3,t4,n4,l4,hq,hb,D,A 0 _ rfl,A 1 _ rfl,A 2 _ rfl,A 3 _ rfl,A 4 _ rfl⟩
theorem Th {A B:Type} {p:A->B->Bool} {a:List A} {b:List B} {k:Nat} {x:A} {y:B} (hx:a[k]?=some x) (hy:b[k]?=some y):eqL p (a.drop k) (b.drop k)=(p x y&&eqL p (a.drop (k+1)) (b.drop (k+1))):=by
 obtain ⟨h1,e1⟩:=Qj hx
 obtain ⟨h2,e2⟩:=Qj hy
 rw [Qp h1,Qp h2,e1,e2];rfl
theorem rhasRec (us:List Sm) (v:Val) (s:Bs) (names:List Bs) (kids:List Ty) (p:Val->Ty->Bool) (hkl:kids.length=names.length) (hvl:v.kind=4->v.kids.length=v.names.length) (hp:∀ x ∈ v.kids,∀ y ∈ kids,Kh us x y (p x y)):Kh us v (.mk 5 s 0 names kids) ((v.kind==4)&&decide (v.names=names)&&eqL p v.kids kids):=by
 intro S S' bR cv ct uv w hu hv ht
 obtain ⟨up,uc,rfl,_⟩:=hu.len
 obtain ⟨p3,k3,p4,k4,aM,aE,T,_⟩:=Z9.cells hv
 simp only [vcs] at aM
 subst aM
 obtain ⟨q3,l3,q4,l4,rfl,aD,aC⟩:=ht.cells'
 have mixed:prog.follows .mixedOrders=true:=Cd
 by_cases h4:v.kind=4
 ·have Y:=Qq (fun W (hb:Below w w W)=>Rz S S' _ _ v.names names W (aE.below hb) (aD.below hb))
  have hq:(v.kind==4)=true:=by rw [h4];rfl
  rw [hq,Bool.true_and]
  have bH:=hvl h4
  rw [h4]
  obtain ⟨m,hm⟩:=eX (v.kids.length)
  have D:decide (v.names=names)=true->kids.length=m:=fun h=>by have:=of_decide_eq_true h;rw [hkl,<- this];omega
  obtain ⟨bn,aL⟩:=eX (decide (v.names=names))
  rw [aL] at Y D |-
  obtain ⟨r,hr⟩:=eX (eqL p v.kids kids)
  rw [hr]
  obtain ⟨HR,aH,aG,HU,HP,HM⟩:=Qjv hr T aC hu hp hm
  obtain ⟨_,_,_,bI⟩:=T.len
  rw [hm] at bI
  obtain ⟨V,O⟩:=eX (kids.length)
  have M:names.length=V:=C7
  rw [hm] at aH |-;rw [O] at aG D;simp only [M] at Y;rw [O,M]
  have bJ:((V:Int) != (V:Int))=false:=Ca
  have aF:=Qq O;have HD:=Qq D
  clear hu hv ht aE T aD aC hp hq bH hr hvl D aL hm hkl O M
  go_enter func105,ntmps105
  go_wp2_with fail
  refine (Y.out _ (Ve _ _ _).bl).mono ?_
  rintro e w1 ⟨rfl,N⟩
  have Z:=(N.bl.block w (by simp;omega)).trans (Q5 w _ _)
  have aA:=(N.bl.block (w+1) Ca).trans (Q6 w _ _)
  have aN:Gr w w1:=(Ve _ _ _).thn N
  have HG:=Qq aN
  have bF:=Z8 Z;have bG:=Z8 aA
  have c4:=rA4 Z;have d4:=rA4 aA
  clear N Z aA aN
  cases bn with
  | false=>
   go_wp2_with fail
   go_ret
   exact ⟨rfl,HG.out⟩
  | true=>
   obtain rfl:V=m:=HD.out rfl
   have bA:=Qq c4;have bB:=Qq d4
   go_wp2_with fail
   clear c4 d4 bJ
   go_loopw [8] (fun i wr=>∃ k:Nat,k<=V/\i=.int .i64 k/\Aside (eqL p (v.kids.drop k) (kids.drop k)=r)/\Aside (Gr w1 wr)) (fun i _=>V - (intOf i).toNat)
   case atStart=>exact ⟨0,Q8 _,rfl,HR.out,Gr.refl _⟩
   obtain ⟨k,hk,rfl,hc,aI⟩:=hrel
   have A:=Qq (show Gr w1 wr from aI);have HC:=Qq (show eqL p (v.kids.drop k) (kids.drop k)=r from hc)
   have aJ:w.heap.size<wr.heap.size:=C8 A.out.bl.size
   have aK:w.heap.size+1<wr.heap.size:=C8 A.out.bl.size
   have c4:=kD A.out.bl bF bA.out
   have d4:=kD A.out.bl bG bB.out
   clear aI hc
   by_cases hlt:k<V
   ·obtain ⟨x,hx⟩:∃ x,v.kids[k]?=some x:=⟨_,Qx (by rw [HM.out];exact hlt)⟩
    obtain ⟨y,hy⟩:∃ y,kids[k]?=some y:=⟨_,Qx (by rw [aF.out];exact hlt)⟩
    have U:Below w w wr:=(HG.out.thn A.out).bl
    obtain ⟨ga,oa,x3,m3,x4,m4,rfl,I,aP,a0,a1,a2,a3,a4⟩:=(aH.out.below U).val hx
    obtain ⟨gb,ob,tk,ts,tn,t3,n3,bO,t4,n4,bP,rfl,J,aQ,e0,e1,e2,e3,e4⟩:=(aG.out.below U).ty hy
    have HX:=Qq (HP.out x (Qy hx) y (Qy hy))
    have G:=HC.out
    rw [Th hx hy] at G
    have aO:=HU.out.below U
    obtain ⟨bD,bE,bC⟩:=Qjq aP aQ aO
    generalize p x y=c at HX G
    have bS:(0:Int)<=(k:Int):=C7
    have bT:(k:Int)<V:=C7
    have aB:∀ n os,Calls prog 105 #[.slice up us.length uc,.agg (vcs x x3 m3 x4 m4).toArray,.agg #[tk,.string ts,tn,.slice t3 n3 bO,.slice t4 n4 bP]] (Sort.grow (wr.drewN n) os) fun e w'=>e=.returned (.bool c)/\Gr (Sort.grow (wr.drewN n) os) w':=fun n os=>HX.out _ _ _ _ _ _ _ (bC.out.below (Yb _ _ _).bl) (bD.out.move (.of_below (Yb _ _ _).bl) Qje) (bE.out.move (.of_below (Yb _ _ _).bl) Qje)
    unfold vcs at aB
    have A0:=Zs I a0;have A1:=Zs I a1;have A2:=Zs I a2;have A3:=Zs I a3;have A4:=Zs I a4
    have E0:=Zs J e0;have E1:=Zs J e1;have E2:=Zs J e2;have E3:=Zs J e3;have E4:=Zs J e4
    have C4:=Zs aJ c4;have D4:=Zs aK d4
    clear a0 a1 a2 a3 a4 e0 e1 e2 e3 e4 aP aQ hx hy aO U
    cases c with
    | true=>
     have aZ:=Qq (show eqL p (v.kids.drop (k+1)) (kids.drop (k+1))=r from by rw [Bool.true_and] at G;exact G)
     clear G
     go_wp2_with fail
     go_quiet_grown (first | (go_at_call 105;refine Calls.grown_of (aB _ _)))
     go_wp2_with fail
     go_roundw
     case rel=>exact ⟨k+1,C7,by go_num,aZ.out,A.out.thn (Yb _ _ _)⟩
     case measure=>simp [intOf];omega
    | false=>
     obtain rfl:false=r:=G
     go_wp2_with fail
     go_quiet_grown (first | (go_at_call 105;refine Calls.grown_of (aB _ _)))
     go_wp2_with fail
     go_ret
     exact ⟨rfl,(HG.out.thn A.out).thn (Yb _ _ _)⟩
   obtain rfl:k=V:=C7
   have bL:r=true:=by
    rw [<- HC.out,List.drop_of_length_le (by rw [HM.out];exact Q9 _),List.drop_of_length_le (by rw [aF.out];exact Q9 _)];rfl
   subst bL
   go_wp2_with fail
   go_ret
   exact ⟨rfl,HG.out.thn A.out⟩
 have hq:(v.kind==4)=false:=by simpa using h4
 have bU:(v.kind != 4)=true:=by simpa using h4
 rw [hq]
 clear hu hv ht aE T aD aC hp
 go_enter func105,ntmps105
 go_wp2_with fail
 go_ret
 exact ⟨rfl,Ve _ _ _⟩
theorem Sz {T:Type} {r:Rd T} {E:TypeId} {S:Nat->Prop} {B b n:Nat} {w:World} {cells:Array Value} {xs:List T} {css:List (List Value)} (hb:w.heap[b]?=some (.cells cells E (0,0))) (hB:B<=b) (hcs:Cs r (fun x=>S x/\x≠b) w css xs) (hc:css.flatten=cells.toList) (hn:n=xs.length) (hl:xs.length<=1000000):Own r E S B w (.slice (some ⟨b,0,none⟩) n n) xs css:=by
 subst hn
 refine ⟨⟨hcs.flat,.inr ⟨b,xs.length,cells,rfl,hB,hb,Q9 _,by unfold maxLen;omega,?_,?_⟩⟩,hcs.move (.refl _ _) (fun c _ h=>⟨h.1,fun e=>h.2 (Qb e)⟩)⟩
 ·have:=hcs.flat
  rw [hc] at this
  simpa using this
 rw [<- hc,Zj (by rw [hcs.flat];exact Q9 _)]
theorem J9 {g:Nat} {W W':World} {c:Nat} {o:Obj} (h:Below g W W') (hc:c<g) (hg:W.heap[c]?=some o):W'.heap[c]?=some o:=(h.block c hc).trans hg
def put9 (W:World) (R:Nat) (a0 a1 a2 a3 a4 a5 a6 a7 a8:Value):World:=(((((((((W.setCell ⟨R,0,none⟩ a0).setCell ⟨R,1,none⟩ a1).setCell ⟨R,2,none⟩ a2).setCell ⟨R,3,none⟩ a3).setCell ⟨R,4,none⟩ a4).setCell ⟨R,5,none⟩ a5).setCell ⟨R,6,none⟩ a6).setCell ⟨R,7,none⟩ a7).setCell ⟨R,8,none⟩ a8)
theorem C1 {W:World} {R:Nat} {a0 a1 a2 a3 a4 a5 a6 a7 a8 x0 x1 x2 x3 x4 x5 x6 x7 x8:Value} {t:TypeId} (h:W.heap[R]?=some (.cells #[x0,x1,x2,x3,x4,x5,x6,x7,x8] t (0,0))):(put9 W R a0 a1 a2 a3 a4 a5 a6 a7 a8).heap[R]?=some (.cells #[a0,a1,a2,a3,a4,a5,a6,a7,a8] t (0,0)):=by
 have A:=Qi _ _ 0 _ _ a0 h;have A:=Qi _ _ 1 _ _ a1 A;have A:=Qi _ _ 2 _ _ a2 A;have A:=Qi _ _ 3 _ _ a3 A;have A:=Qi _ _ 4 _ _ a4 A;have A:=Qi _ _ 5 _ _ a5 A;have A:=Qi _ _ 6 _ _ a6 A;have A:=Qi _ _ 7 _ _ a7 A;have A:=Qi _ _ 8 _ _ a8 A
 simpa [put9] using A
theorem E7 {W:World} {R k:Nat} {a0 a1 a2 a3 a4 a5 a6 a7 a8:Value} (h:k≠R):(put9 W R a0 a1 a2 a3 a4 a5 a6 a7 a8).heap[k]?=W.heap[k]?:=by
 unfold put9
 repeat rw [Za h]
theorem Rn {B R:Nat} {w W:World} {a0 a1 a2 a3 a4 a5 a6 a7 a8:Value} (h:Below B w W) (hR:B<=R):Below B w (put9 W R a0 a1 a2 a3 a4 a5 a6 a7 a8):=
 ((((((((h.setCell (p:=⟨R,0,none⟩) hR _).setCell (p:=⟨R,1,none⟩) hR _).setCell (p:=⟨R,2,none⟩) hR _).setCell (p:=⟨R,3,none⟩) hR _).setCell (p:=⟨R,4,none⟩) hR _).setCell (p:=⟨R,5,none⟩) hR _).setCell (p:=⟨R,6,none⟩) hR _).setCell (p:=⟨R,7,none⟩) hR _).setCell (p:=⟨R,8,none⟩) hR _
theorem Xb {W:World} {R:Nat} {a0 a1 a2 a3 a4 a5 a6 a7 a8 x0 x1 x2 x3 x4 x5 x6 x7 x8:Value} {t:TypeId} (h:W.heap[R]?=some (.cells #[x0,x1,x2,x3,x4,x5,x6,x7,x8] t (0,0))) (j:Nat):(put9 W R a0 a1 a2 a3 a4 a5 a6 a7 a8).cell? ⟨R,j,none⟩=#[a0,a1,a2,a3,a4,a5,a6,a7,a8][j]?:=
 Qk _ _ _ _ _ _ (C1 h)
def ExIs (S:Nat->Prop) (w:World) (x:Ex) (e:Ending) (w':World):Prop:=∃ ek es en et e1 f1 g1 e2 f2 g2 e3 f3 g3 ea ez,e=.returned (.agg (Cp ek es en et e1 f1 g1 e2 f2 g2 e3 f3 g3 ea ez))/\Yx (fun b=>S b\/w<=b) w' (Cp ek es en et e1 f1 g1 e2 f2 g2 e3 f3 g3 ea ez) x/\Below w w w'
theorem rop_any (S:Nat->Prop) (o:Bs) (a b:Ex) (ca cb:List Value) (w:World) (ho:o.length<=1000000) (ha0:Yx S w ca a) (hb0:Yx S w cb b):
  Calls prog 84 #[sv o,ca,cb] w (ExIs S w (Gen.op o [a,b])):=by
 have J:Yx (fun c=>S c/\c<w) w ca a:=ha0.move (.refl _ _) (fun b hb h=>⟨h,hb⟩)
 have hb:Yx (fun c=>S c/\c<w) w cb b:=hb0.move (.refl _ _) (fun b hb h=>⟨h,hb⟩)
 obtain ⟨aC,aG,aE,aI,O,aM,aS,U,aO,aU,Y,aQ,aW,aA,aK,M⟩:=Yx.cells J
 obtain ⟨aD,aH,aF,aJ,T,aN,aT,V,aP,aV,Z,aR,aX,aB,aL,N⟩:=Yx.cells hb
 subst M;subst N
 have HA:=Qq J;have HB:=Qq hb
 clear J hb ha0 hb0
 unfold sv
 go_enter func84,ntmps84
 go_wp2_with fail
 generalize A:(((w.alloc _).alloc _).alloc _).alloc _=W1
 have D:=eqB A (Yj (Yj (Yj (Zg w _) _) _) _)
 have I:=eqH (b:=w.heap.size+1+1) A (Zb (Y3 Ca _) _)
 have G:=eqH (b:=w.heap.size+1+1+1) A (Y3 Ca _)
 clear A
 refine Q7 (v:=.agg #[.int .i64 14,o,Ci,Cl,Cm,Cm,Cg (w+1+1+1) 0 2 2,Ci,Ci]) (by simp [results,results84,go_sem,Qk _ _ _ _ _ _ I]) rfl ⟨_,_,_,_,_,_,_,_,_,_,_,_,_,_,_,rfl,?_,D⟩
 refine Xj ho (s:=[]) Ca (Sl.nil _ _ _) (Sl.nil _ _ _) ?_
 exact Y2 G (.inr C7) ((Cs.one (r:=Xp) ((HA.out.move (.of_below D) Qje).move (.refl _ _) (fun b _ h=>.inl h.1))).app (Cs.one (r:=Xp) ((HB.out.move (.of_below D) Qje).move (.refl _ _) (fun b _ h=>.inl h.1)))) rfl rfl Ca
theorem Yk {S:Nat->Prop} {w:World} (k:Int) (nm:Bs) (n:Int) (sx:Bs) (h1:nm.length<=1000000) (h2:sx.length<=1000000):Yx S w [k,nm,n,sx,Cm,Cm,Cm,Ci,Ci] (.mk k nm n sx [] [] [] 0 0):=
 Xj h1 h2 (Sl.nil _ _ _) (Sl.nil _ _ _) (Sl.nil _ _ _)
theorem Ts {W:World} {R b j:Nat} {x0 x1 x2 x3 x4 x5 x6 x7 x8 u:Value} (h:b≠R) (hc:W.cell? ⟨b,j,none⟩=some u):(put9 W R x0 x1 x2 x3 x4 x5 x6 x7 x8).cell? ⟨b,j,none⟩=some u:=(World.cell?_of_block (E7 h)).trans hc
def ExAt (Rb:Nat) (w:World) (x:Ex) (e:Ending) (w':World):Prop:=∃ ek es en et e1 f1 g1 e2 f2 g2 e3 f3 g3 ea ez,e=.returned (.agg (Cp ek es en et e1 f1 g1 e2 f2 g2 e3 f3 g3 ea ez))/\Yx (fun b=>Rb<b) w' (Cp ek es en et e1 f1 g1 e2 f2 g2 e3 f3 g3 ea ez) x/\Below w w w'
theorem V0 (Rb:Nat) (o:Bs) (a b:Ex) (ca cb:List Value) (w:World) (ho:o.length<=1000000) (ha:Yx (fun b=>Rb<b) w ca a) (hb:Yx (fun b=>Rb<b) w cb b) (hR:Rb<w):
  Calls prog 84 #[o,ca,cb] w (ExAt Rb w (Gen.op o [a,b])):=
 (rop_any _ o a b ca cb w ho ha hb).mono fun _ _ ⟨ek,es,en,et,e1,f1,g1,e2,f2,g2,e3,f3,g3,ea,ez,h1,h2,h3⟩=>⟨ek,es,en,et,e1,f1,g1,e2,f2,g2,e3,f3,g3,ea,ez,h1,h2.move (.refl _ _) (fun b _ h=>h.elim id (fun h=>C7)),h3⟩
theorem U3 {w W:World} {cs:List Value} {x:Ex} {c0 c1 c2 c3 c4 c5 c6 c7 c8:Value} (hx:Yx (fun b=>w<b) W [c0,c1,c2,c3,c4,c5,c6,c7,c8] x) (hb:Below w w W) (hc:cs=[c0,c1,c2,c3,c4,c5,c6,c7,c8]):Uo w x (.returned (.agg #[c0,c1,c2,c3,c4,c5,c6,c7,c8])) (put9 W w c0 c1 c2 c3 c4 c5 c6 c7 c8):=
 ⟨cs,by rw [hc],by rw [hc];exact hx.move (fun b hb _=>E7 (by have h:w.heap.size<b:=hb;omega)) (fun b _ h=>by show w<=b;have h':w.heap.size<b:=h;omega),Rn hb (Q9 _)⟩
def Yp (L:List (Nat × Nat × Value)) (w:World):Prop:=∀ x ∈ L,w.cell? ⟨x.1,x.2.1,none⟩=some x.2.2
def Sj:List (Nat × Nat × Value)->World->Prop
 | [],_=>True
 | [x],w=>w.cell? ⟨x.1,x.2.1,none⟩=some x.2.2
 | x::y::l,w=>w.cell? ⟨x.1,x.2.1,none⟩=some x.2.2/\Sj (y::l) w
theorem Yp.spread:∀ {L:List (Nat × Nat × Value)} {w:World},Yp L w->Sj L w
 | [],_,_=>trivial
 | [x],_,h=>h x (List.mem_cons_self ..)
 | x::y::l,_,h=>⟨h x (List.mem_cons_self ..),Yp.spread (L:=y::l) (fun z hz=>h z (List.mem_cons_of_mem _ hz))⟩
theorem Yp.later {L:List (Nat × Nat × Value)} {w w':World} (h:Yp L w) (hb:Below w w w'):Yp L w':=fun x hx=>kC hb (h x hx)
theorem Yp.alloc {L:List (Nat × Nat × Value)} {w:World} (h:Yp L w) (o:Obj):Yp L (w.alloc o):=h.later (Zg _ _)
theorem Yp.drew {L:List (Nat × Nat × Value)} {w:World} (h:Yp L w):Yp L w.drew:=h
theorem Yp.put9 {L:List (Nat × Nat × Value)} {w:World} {R:Nat} (h:Yp L w) (hn:∀ x ∈ L,R<x.1) (a0 a1 a2 a3 a4 a5 a6 a7 a8:Value):Yp L (put9 w R a0 a1 a2 a3 a4 a5 a6 a7 a8):=fun x hx=>Ts (Nat.ne_of_gt (hn x hx)) (h x hx)
def J0 (b:Nat) (a0 a1 a2 a3 a4 a5 a6 a7 a8:Value):List (Nat × Nat × Value):=[(b,0,a0),(b,1,a1),(b,2,a2),(b,3,a3),(b,4,a4),(b,5,a5),(b,6,a6),(b,7,a7),(b,8,a8)]
theorem Yp.row {w:World} {b:Nat} {t:TypeId} {a0 a1 a2 a3 a4 a5 a6 a7 a8:Value} (h:w.heap[b]?=some (.cells #[a0,a1,a2,a3,a4,a5,a6,a7,a8] t (0,0))):Yp (J0 b a0 a1 a2 a3 a4 a5 a6 a7 a8) w:=by
 intro x hx
 simp only [J0,Z3,Z2,or_false] at hx
 rcases hx with rfl | rfl | rfl | rfl | rfl | rfl | rfl | rfl | rfl
 all_goals exact Qk _ _ _ _ _ _ h
theorem Yp.app {K L:List (Nat × Nat × Value)} {w:World} (h:Yp K w) (g:Yp L w):Yp (K++L) w:=fun x hx=>(Z4.1 hx).elim (h x) (g x)
theorem X8 {R b:Nat} (h:R<b) (a0 a1 a2 a3 a4 a5 a6 a7 a8:Value):∀ x ∈ J0 b a0 a1 a2 a3 a4 a5 a6 a7 a8,R<x.1:=by
 intro x hx
 simp only [J0,Z3,Z2,or_false] at hx
 rcases hx with rfl | rfl | rfl | rfl | rfl | rfl | rfl | rfl | rfl
 all_goals exact h
theorem U6 {R:Nat} {K L:List (Nat × Nat × Value)} (h:∀ x ∈ K,R<x.1) (g:∀ x ∈ L,R<x.1):∀ x ∈ K++L,R<x.1:=fun x hx=>(Z4.1 hx).elim (h x) (g x)
theorem Tc {W:World} {b:Nat} {t:TypeId} {x0 x1 x2 x3 x4 x5 x6 x7 x8:Value} (h:W.heap[b]?=some (.cells #[x0,x1,x2,x3,x4,x5,x6,x7,x8] t (0,0))):(W.frozen? ⟨b,0,none⟩=false/\W.frozen? ⟨b,1,none⟩=false/\W.frozen? ⟨b,2,none⟩=false/\W.frozen? ⟨b,3,none⟩=false/\W.frozen? ⟨b,4,none⟩=false/\W.frozen? ⟨b,5,none⟩=false/\W.frozen? ⟨b,6,none⟩=false/\W.frozen? ⟨b,7,none⟩=false/\W.frozen? ⟨b,8,none⟩=false)/\Qjo W b x0 x1 x2 x3 x4 x5 x6 x7 x8:=
 ⟨⟨fA 0 h,fA 1 h,fA 2 h,fA 3 h,fA 4 h,fA 5 h,fA 6 h,fA 7 h,fA 8 h⟩,Qk _ _ 0 _ _ _ h,Qk _ _ 1 _ _ _ h,Qk _ _ 2 _ _ _ h,Qk _ _ 3 _ _ _ h,Qk _ _ 4 _ _ _ h,Qk _ _ 5 _ _ _ h,Qk _ _ 6 _ _ _ h,Qk _ _ 7 _ _ _ h,Qk _ _ 8 _ _ _ h⟩
theorem Vh {X W:World} (h:Below X.drew.heap.size X.drew W):Below X X W:=(Qz _ _).drew.thn h
theorem Vb {X W:World} {o:Obj} (h:World.alloc X o=W):Below X X W:=by rw [<- h];exact Zg _ _
theorem J2 {X W:World} {o:Obj} (h:World.alloc X o=W):W.heap[X.heap.size]?=some o:=by rw [<- h];exact Qw _ _
theorem Dj {X W:World} {o o':Obj} {g:Nat} (_h:World.alloc X o=W) (hg:X.heap[g]?=some o'):g<X.heap.size:=Z8 hg
theorem F9 {X W:World} {o:Obj} (h:World.alloc X o=W):W=X.heap.size+1:=by rw [<- h];simp
theorem Pc {W:World} {b c:Nat} {o:Obj} (h:W.heap[b]?=some o) (e:c=b):W.heap[c]?=some o:=by rw [e];exact h
theorem Ye {w w':World} {b:Nat} {o:Obj} (hb:Below w w w') (h:w.heap[b]?=some o):w'.heap[b]?=some o:=kB hb h
theorem Av (S:Nat->Prop) (v:Value) (l:List Int) (w:World) (hs:Xd S w v l) (hi:Uh l) (hk:Yl l 0 13=3):
  Calls prog 26 #[v,Ci] w (Uo w (Gen.check 3)):=by
 have HP:=Qq (fun W (hb:Below w w W)=>Yn S v l 0 13 W (hs.below hb) hi C7 C7)
 rw [hk] at HP
 obtain ⟨p,cap,rfl,_⟩:=hs.len
 clear hs hi hk
 go_enter func26,ntmps26
 go_upto_region 8 with fail
 generalize aA:(((((((w.alloc _).alloc _).alloc _).alloc _).alloc _).alloc _).alloc _).alloc _=W8
 have aX:=eqB aA (Yj (Yj (Yj (Yj (Yj (Yj (Yj (Zg w _) _) _) _) _) _) _) _)
 have bE:W8=w.heap.size+8:=by rw [<- aA];simp
 have r8:=eqH (b:=w.heap.size) aA (Zb (Zb (Zb (Zb (Zb (Zb (Zb (Y3 rfl _) _) _) _) _) _) _) _)
 have A:=(((Yp.row (show W8.heap[w.heap.size+1]?=some (.cells #[.int .i64 3,.string ⟨#[97]⟩,Ci,Cl,Cm,Cm,Cm,Ci,Ci] 46 (0,0)) from by rw [<- aA];exact Zb (Zb (Zb (Zb (Zb (Zb (Y3 Ca _) _) _) _) _) _) _)).app (Yp.row (show W8.heap[w.heap.size+1+1]?=some (.cells #[.int .i64 3,.string ⟨#[98]⟩,Ci,Cl,Cm,Cm,Cm,Ci,Ci] 46 (0,0)) from by rw [<- aA];exact Zb (Zb (Zb (Zb (Zb (Y3 Ca _) _) _) _) _) _))).app (Yp.row (show W8.heap[w.heap.size+1+1+1+1+1+1]?=some (.cells #[Ci,Cl,.int .i64 1,Cl,Cm,Cm,Cm,Ci,Ci] 46 (0,0)) from by rw [<- aA];exact Zb (Y3 Ca _) _)))
 have hG:=(U6 (U6 (X8 (show w<w.heap.size+1 by omega) (.int .i64 3) (.string ⟨#[97]⟩) (.int .i64 0) (.string ⟨#[]⟩) (.slice none 0 0) (.slice none 0 0) (.slice none 0 0) (.int .i64 0) (.int .i64 0)) (X8 (show w<w.heap.size+1+1 by omega) (.int .i64 3) (.string ⟨#[98]⟩) (.int .i64 0) (.string ⟨#[]⟩) (.slice none 0 0) (.slice none 0 0) (.slice none 0 0) (.int .i64 0) (.int .i64 0))) (X8 (show w<w.heap.size+1+1+1+1+1+1 by omega) (.int .i64 0) (.string ⟨#[]⟩) (.int .i64 1) (.string ⟨#[]⟩) (.slice none 0 0) (.slice none 0 0) (.slice none 0 0) (.int .i64 0) (.int .i64 0)))
 have aG:=Qq aX;have HR:=Qq r8
 clear aA aX r8 bE
 go_upto_region 14 with (go_at_call 27;refine (HP.out _ aG.out).mono ?_;rintro e w' ⟨rfl,rfl⟩)
 refine let_mvar% ?Lq1:=fun w':World=>(Qjh w' (w+1) (.int .i64 3) (.string ⟨#[97]⟩) Ci Cl Cm Cm Cm Ci Ci ((Qjh w' (w+1+1) (.int .i64 3) (.string ⟨#[98]⟩) Ci Cl Cm Cm Cm Ci Ci ((Qjo w' (w+1+1+1+1+1+1) Ci Cl (.int .i64 1) Cl Cm Cm Cm Ci Ci:Prop)):Prop)):Prop);?_
 have HS:=Qq (fun w' (h:Yp (J0 (w+1) (.int .i64 3) (.string ⟨#[97]⟩) (.int .i64 0) (.string ⟨#[]⟩) (.slice none 0 0) (.slice none 0 0) (.slice none 0 0) (.int .i64 0) (.int .i64 0)++J0 (w+1+1) (.int .i64 3) (.string ⟨#[98]⟩) (.int .i64 0) (.string ⟨#[]⟩) (.slice none 0 0) (.slice none 0 0) (.slice none 0 0) (.int .i64 0) (.int .i64 0)++J0 (w+1+1+1+1+1+1) (.int .i64 0) (.string ⟨#[]⟩) (.int .i64 1) (.string ⟨#[]⟩) (.slice none 0 0) (.slice none 0 0) (.slice none 0 0) (.int .i64 0) (.int .i64 0)) w')=>(show ?Lq1 w' from Yp.spread h))
 have HG:=Qq hG
 have aH:=Qq (fun w' z0 z1 z2 z3 z4 z5 z6 z7 z8 (h:Yp _ w')=>HS.out _ (h.put9 HG.out z0 z1 z2 z3 z4 z5 z6 z7 z8))
 unfold put9 at aH
 have D:=aG
 clear hG
 obtain ⟨aC,aD,aE,bC⟩:=Qjz True.intro True.intro True.intro True.intro
 go_region_held3 ?Lq1 (first | with_reducible exact HS.out _ A | with_reducible exact HS.out _ A.drew | with_reducible exact HS.out _ (A.alloc _) | with_reducible exact HS.out _ (A.alloc _).drew | with_reducible exact HS.out _ ((A.alloc _).alloc _) | with_reducible exact HS.out _ ((A.alloc _).alloc _).drew | with_reducible exact HS.out _ (((A.alloc _).alloc _).alloc _) | with_reducible exact aH.out _ _ _ _ _ _ _ _ _ _ A)
  (first
   | (have hn:=T.out;clear hn;have hk:=aE.out;go_at_call 84;refine (V0 w [60,61] _ _ _ _ _ Ca (by exact (Yk 3 [97] 0 [] Ca Ca)) (by exact T.out) (by exact Z8 HR.out)).mono ?_;rintro e W3 ⟨aM,aO,aN,aP,aI,aR,aU,aJ,aS,aV,aK,aT,aW,aL,aQ,rfl,bA,J⟩;clear aE hk;(try (have Y:=Vh J;clear J;have J:=Y;clear Y));have V:=A.later J;clear A;have A:=V;clear V;have N:=Qq (Ye J HR.out);clear HR;have HR:=N;clear N;have M:=Qq (D.out.thn J);clear D;have D:=M;clear M;(try (have U:=Qq (O.out.move (.of_below J) Qje);clear O;have O:=U;clear U));(try (have U:=Qq (T.out.move (.of_below J) Qje);clear T;have T:=U;clear U));have Z:=Qq bA;clear bA J;obtain ⟨⟨f0,f1,f2,f3,f4,f5,f6,f7,f8⟩,y0,y1,y2,y3,y4,y5,y6,y7,y8⟩:=Tc HR.out)
   | (have hn:=O.out;clear hn;have hk:=aD.out;go_at_call 84;refine (V0 w [43] _ _ _ _ _ Ca (by exact (Yk 3 [98] 0 [] Ca Ca)) (by exact O.out) (by exact Z8 HR.out)).mono ?_;rintro e W2 ⟨bO,bS,bQ,bU,bG,bY,cE,bI,cA,cG,bK,cC,cI,bM,bW,rfl,aZ,I⟩;clear aD hk;(try (have Y:=Vh I;clear I;have I:=Y;clear Y));have V:=A.later I;clear A;have A:=V;clear V;have N:=Qq (Ye I HR.out);clear HR;have HR:=N;clear N;have M:=Qq (D.out.thn I);clear D;have D:=M;clear M;(try (have U:=Qq (O.out.move (.of_below I) Qje);clear O;have O:=U;clear U));(try (have U:=Qq (Z.out.move (.of_below I) Qje);clear Z;have Z:=U;clear U));have T:=Qq aZ;clear aZ I)
   | (have hk:=aC.out;go_at_call 84;refine (V0 w [42] _ _ _ _ _ Ca (by exact (Yk 0 [] 1 [] Ca Ca)) (by exact (Yk 0 [] 1 [] Ca Ca)) (by exact Z8 HR.out)).mono ?_;rintro e W1 ⟨bN,bR,bP,bT,bF,bX,cD,bH,bZ,cF,bJ,cB,cH,bL,bV,rfl,aY,G⟩;clear aC hk;(try (have Y:=Vh G;clear G;have G:=Y;clear Y));have V:=A.later G;clear A;have A:=V;clear V;have N:=Qq (Ye G HR.out);clear HR;have HR:=N;clear N;have M:=Qq (D.out.thn G);clear D;have D:=M;clear M;(try (have U:=Qq (T.out.move (.of_below G) Qje);clear T;have T:=U;clear U));(try (have U:=Qq (Z.out.move (.of_below G) Qje);clear Z;have Z:=U;clear U));have O:=Qq aY;clear aY G)
   | fail)
 all_goals
  go_wp2_with fail
  show bodyPost _ _ _ _ _ (put9 _ w aM (.string aO) aN (.string aP) (.slice aI aR aU) (.slice aJ aS aV) (.slice aK aT aW) aL aQ)
  exact Q7 (v:=.agg (Cp aM aO aN aP aI aR aU aJ aS aV aK aT aW aL aQ)) (by simp [results,results26,go_sem,Xb HR.out]) rfl (U3 Z.out D.out rfl)
theorem Ti (S:Nat->Prop) (v:Value) (l:List Int) (w:World) (hs:Xd S w v l) (hi:Uh l) (hk:Yl l 0 13=4):
  Calls prog 26 #[v,Ci] w (Uo w (Gen.check 4)):=by
 have HP:=Qq (fun W (hb:Below w w W)=>Yn S v l 0 13 W (hs.below hb) hi C7 C7)
 rw [hk] at HP
 obtain ⟨p,cap,rfl,_⟩:=hs.len
 clear hs hi hk
 go_enter func26,ntmps26
 go_upto_region 8 with fail
 generalize J:(((((((w.alloc _).alloc _).alloc _).alloc _).alloc _).alloc _).alloc _).alloc _=W8
 have aU:=eqB J (Yj (Yj (Yj (Yj (Yj (Yj (Yj (Zg w _) _) _) _) _) _) _) _)
 have aZ:W8=w.heap.size+8:=by rw [<- J];simp
 have r8:=eqH (b:=w.heap.size) J (Zb (Zb (Zb (Zb (Zb (Zb (Zb (Y3 rfl _) _) _) _) _) _) _) _)
 have A:=((Yp.row (show W8.heap[w.heap.size+1+1+1+1]?=some (.cells zQ 46 (0,0)) from by rw [<- J];exact Zb (Zb (Zb (Y3 Ca _) _) _) _)).app (Yp.row (show W8.heap[w.heap.size+1+1+1]?=some (.cells #[.int .i64 3,.string ⟨#[99]⟩,Ci,Cl,Cm,Cm,Cm,Ci,Ci] 46 (0,0)) from by rw [<- J];exact Zb (Zb (Zb (Zb (Y3 Ca _) _) _) _) _)))
 have hG:=(U6 (X8 (show w<w.heap.size+1+1+1+1 by omega) (.int .i64 3) (.string ⟨#[100]⟩) (.int .i64 0) (.string ⟨#[]⟩) (.slice none 0 0) (.slice none 0 0) (.slice none 0 0) (.int .i64 0) (.int .i64 0)) (X8 (show w<w.heap.size+1+1+1 by omega) (.int .i64 3) (.string ⟨#[99]⟩) (.int .i64 0) (.string ⟨#[]⟩) (.slice none 0 0) (.slice none 0 0) (.slice none 0 0) (.int .i64 0) (.int .i64 0)))
 have aC:=Qq aU;have Z:=Qq r8
 clear J aU r8 aZ
 go_upto_region 16 with (go_at_call 27;refine (HP.out _ aC.out).mono ?_;rintro e w' ⟨rfl,rfl⟩)
 refine let_mvar% ?Lq1:=fun w':World=>(Qjh w' (w+1+1+1+1) (.int .i64 3) (.string ⟨#[100]⟩) Ci Cl Cm Cm Cm Ci Ci ((Qjo w' (w+1+1+1) (.int .i64 3) (.string ⟨#[99]⟩) Ci Cl Cm Cm Cm Ci Ci:Prop)):Prop);?_
 have HS:=Qq (fun w' (h:Yp (J0 (w+1+1+1+1) (.int .i64 3) (.string ⟨#[100]⟩) (.int .i64 0) (.string ⟨#[]⟩) (.slice none 0 0) (.slice none 0 0) (.slice none 0 0) (.int .i64 0) (.int .i64 0)++J0 (w+1+1+1) (.int .i64 3) (.string ⟨#[99]⟩) (.int .i64 0) (.string ⟨#[]⟩) (.slice none 0 0) (.slice none 0 0) (.slice none 0 0) (.int .i64 0) (.int .i64 0)) w')=>(show ?Lq1 w' from Yp.spread h))
 have HG:=Qq hG
 have aD:=Qq (fun w' z0 z1 z2 z3 z4 z5 z6 z7 z8 (h:Yp _ w')=>HS.out _ (h.put9 HG.out z0 z1 z2 z3 z4 z5 z6 z7 z8))
 unfold put9 at aD
 have I:=aC
 clear hG
 obtain ⟨U,V,aY⟩:=Qjq True.intro True.intro True.intro
 go_region_held3 ?Lq1 (first | with_reducible exact HS.out _ A | with_reducible exact HS.out _ A.drew | with_reducible exact HS.out _ (A.alloc _) | with_reducible exact HS.out _ (A.alloc _).drew | with_reducible exact HS.out _ ((A.alloc _).alloc _) | with_reducible exact HS.out _ ((A.alloc _).alloc _).drew | with_reducible exact HS.out _ (((A.alloc _).alloc _).alloc _) | with_reducible exact aD.out _ _ _ _ _ _ _ _ _ _ A)
  (first
   | (have hn:=O.out;clear hn;have hk:=V.out;go_at_call 84;refine (V0 w [111,114] _ _ _ _ _ Ca (by exact (Yk 3 [100] 0 [] Ca Ca)) (by exact O.out) (by exact Z8 Z.out)).mono ?_;rintro e W2 ⟨aI,aK,aJ,aL,aE,aN,aQ,aF,aO,aR,aG,aP,aS,aH,aM,rfl,aW,G⟩;clear V hk;(try (have Y:=Vh G;clear G;have G:=Y;clear Y));have T:=A.later G;clear A;have A:=T;clear T;have N:=Qq (Ye G Z.out);clear Z;have Z:=N;clear N;have M:=Qq (I.out.thn G);clear I;have I:=M;clear M;(try (have h0:=Qq (O.out.move (.of_below G) Qje);clear O;have O:=h0;clear h0));have aA:=Qq aW;clear aW G;obtain ⟨⟨f0,f1,f2,f3,f4,f5,f6,f7,f8⟩,y0,y1,y2,y3,y4,y5,y6,y7,y8⟩:=Tc Z.out)
   | (have hk:=U.out;go_at_call 84;refine (V0 w [33,61] _ _ _ _ _ Ca (by exact (Yk 3 [99] 0 [] Ca Ca)) (by exact (Yk 1 [] 0 [97,98] Ca Ca)) (by exact Z8 Z.out)).mono ?_;rintro e W1 ⟨bE,bG,bF,bH,bA,bJ,bM,bB,bK,bN,bC,bL,bO,bD,bI,rfl,aV,D⟩;clear U hk;(try (have Y:=Vh D;clear D;have D:=Y;clear Y));have T:=A.later D;clear A;have A:=T;clear T;have N:=Qq (Ye D Z.out);clear Z;have Z:=N;clear N;have M:=Qq (I.out.thn D);clear I;have I:=M;clear M;(try (have h0:=Qq (aA.out.move (.of_below D) Qje);clear aA;have aA:=h0;clear h0));have O:=Qq aV;clear aV D)
   | fail)
 all_goals
  go_wp2_with fail
  show bodyPost _ _ _ _ _ (put9 _ w aI (.string aK) aJ (.string aL) (.slice aE aN aQ) (.slice aF aO aR) (.slice aG aP aS) aH aM)
  exact Q7 (v:=.agg (Cp aI aK aJ aL aE aN aQ aF aO aR aG aP aS aH aM)) (by simp [results,results26,go_sem,Xb Z.out]) rfl (U3 aA.out I.out rfl)
theorem Pk (S:Nat->Prop) (v:Value) (l:List Int) (w:World) (hs:Xd S w v l) (hi:Uh l) (hk:Yl l 0 13=10):
  Calls prog 26 #[v,Ci] w (Uo w (Gen.check 10)):=by
 have HP:=Qq (fun W (hb:Below w w W)=>Yn S v l 0 13 W (hs.below hb) hi C7 C7)
 rw [hk] at HP
 obtain ⟨p,cap,rfl,_⟩:=hs.len
 clear hs hi hk
 go_enter func26,ntmps26
 go_upto_region 8 with fail
 generalize J:(((((((w.alloc _).alloc _).alloc _).alloc _).alloc _).alloc _).alloc _).alloc _=W8
 have aU:=eqB J (Yj (Yj (Yj (Yj (Yj (Yj (Yj (Zg w _) _) _) _) _) _) _) _)
 have aZ:W8=w.heap.size+8:=by rw [<- J];simp
 have r8:=eqH (b:=w.heap.size) J (Zb (Zb (Zb (Zb (Zb (Zb (Zb (Y3 rfl _) _) _) _) _) _) _) _)
 have A:=(((Yp.row (show W8.heap[w.heap.size+1+1+1+1]?=some (.cells zQ 46 (0,0)) from by rw [<- J];exact Zb (Zb (Zb (Y3 Ca _) _) _) _)).app (Yp.row (show W8.heap[w.heap.size+1]?=some (.cells #[.int .i64 3,.string ⟨#[97]⟩,Ci,Cl,Cm,Cm,Cm,Ci,Ci] 46 (0,0)) from by rw [<- J];exact Zb (Zb (Zb (Zb (Zb (Zb (Y3 Ca _) _) _) _) _) _) _))).app (Yp.row (show W8.heap[w.heap.size+1+1+1]?=some (.cells #[.int .i64 3,.string ⟨#[99]⟩,Ci,Cl,Cm,Cm,Cm,Ci,Ci] 46 (0,0)) from by rw [<- J];exact Zb (Zb (Zb (Zb (Y3 Ca _) _) _) _) _)))
 have hG:=(U6 (U6 (X8 (show w<w.heap.size+1+1+1+1 by omega) (.int .i64 3) (.string ⟨#[100]⟩) (.int .i64 0) (.string ⟨#[]⟩) (.slice none 0 0) (.slice none 0 0) (.slice none 0 0) (.int .i64 0) (.int .i64 0)) (X8 (show w<w.heap.size+1 by omega) (.int .i64 3) (.string ⟨#[97]⟩) (.int .i64 0) (.string ⟨#[]⟩) (.slice none 0 0) (.slice none 0 0) (.slice none 0 0) (.int .i64 0) (.int .i64 0))) (X8 (show w<w.heap.size+1+1+1 by omega) (.int .i64 3) (.string ⟨#[99]⟩) (.int .i64 0) (.string ⟨#[]⟩) (.slice none 0 0) (.slice none 0 0) (.slice none 0 0) (.int .i64 0) (.int .i64 0)))
 have aC:=Qq aU;have Z:=Qq r8
 clear J aU r8 aZ
 go_upto_region 30 with (go_at_call 27;refine (HP.out _ aC.out).mono ?_;rintro e w' ⟨rfl,rfl⟩)
 refine let_mvar% ?Lq1:=fun w':World=>(Qjh w' (w+1+1+1+1) (.int .i64 3) (.string ⟨#[100]⟩) Ci Cl Cm Cm Cm Ci Ci ((Qjh w' (w+1) (.int .i64 3) (.string ⟨#[97]⟩) Ci Cl Cm Cm Cm Ci Ci ((Qjo w' (w+1+1+1) (.int .i64 3) (.string ⟨#[99]⟩) Ci Cl Cm Cm Cm Ci Ci:Prop)):Prop)):Prop);?_
 have HS:=Qq (fun w' (h:Yp (J0 (w+1+1+1+1) (.int .i64 3) (.string ⟨#[100]⟩) (.int .i64 0) (.string ⟨#[]⟩) (.slice none 0 0) (.slice none 0 0) (.slice none 0 0) (.int .i64 0) (.int .i64 0)++J0 (w+1) (.int .i64 3) (.string ⟨#[97]⟩) (.int .i64 0) (.string ⟨#[]⟩) (.slice none 0 0) (.slice none 0 0) (.slice none 0 0) (.int .i64 0) (.int .i64 0)++J0 (w+1+1+1) (.int .i64 3) (.string ⟨#[99]⟩) (.int .i64 0) (.string ⟨#[]⟩) (.slice none 0 0) (.slice none 0 0) (.slice none 0 0) (.int .i64 0) (.int .i64 0)) w')=>(show ?Lq1 w' from Yp.spread h))
 have HG:=Qq hG
 have aD:=Qq (fun w' z0 z1 z2 z3 z4 z5 z6 z7 z8 (h:Yp _ w')=>HS.out _ (h.put9 HG.out z0 z1 z2 z3 z4 z5 z6 z7 z8))
 unfold put9 at aD
 have I:=aC
 clear hG
 obtain ⟨U,V,aY⟩:=Qjq True.intro True.intro True.intro
 go_region_held3 ?Lq1 (first | with_reducible exact HS.out _ A | with_reducible exact HS.out _ A.drew | with_reducible exact HS.out _ (A.alloc _) | with_reducible exact HS.out _ (A.alloc _).drew | with_reducible exact HS.out _ ((A.alloc _).alloc _) | with_reducible exact HS.out _ ((A.alloc _).alloc _).drew | with_reducible exact HS.out _ (((A.alloc _).alloc _).alloc _) | with_reducible exact aD.out _ _ _ _ _ _ _ _ _ _ A)
  (first
   | (have hn:=O.out;clear hn;have hk:=V.out;go_at_call 84;refine (V0 w [97,110,100] _ _ _ _ _ Ca (by exact (Yk 3 [100] 0 [] Ca Ca)) (by exact O.out) (by exact Z8 Z.out)).mono ?_;rintro e W2 ⟨aI,aK,aJ,aL,aE,aN,aQ,aF,aO,aR,aG,aP,aS,aH,aM,rfl,aW,G⟩;clear V hk;(try (have Y:=Vh G;clear G;have G:=Y;clear Y));have T:=A.later G;clear A;have A:=T;clear T;have N:=Qq (Ye G Z.out);clear Z;have Z:=N;clear N;have M:=Qq (I.out.thn G);clear I;have I:=M;clear M;(try (have h0:=Qq (O.out.move (.of_below G) Qje);clear O;have O:=h0;clear h0));have aA:=Qq aW;clear aW G;obtain ⟨⟨f0,f1,f2,f3,f4,f5,f6,f7,f8⟩,y0,y1,y2,y3,y4,y5,y6,y7,y8⟩:=Tc Z.out)
   | (have hk:=U.out;go_at_call 84;refine (V0 w [43] _ _ _ _ _ Ca (by exact (Yk 3 [97] 0 [] Ca Ca)) (by exact (Yk 3 [99] 0 [] Ca Ca)) (by exact Z8 Z.out)).mono ?_;rintro e W1 ⟨bE,bG,bF,bH,bA,bJ,bM,bB,bK,bN,bC,bL,bO,bD,bI,rfl,aV,D⟩;clear U hk;(try (have Y:=Vh D;clear D;have D:=Y;clear Y));have T:=A.later D;clear A;have A:=T;clear T;have N:=Qq (Ye D Z.out);clear Z;have Z:=N;clear N;have M:=Qq (I.out.thn D);clear I;have I:=M;clear M;(try (have h0:=Qq (aA.out.move (.of_below D) Qje);clear aA;have aA:=h0;clear h0));have O:=Qq aV;clear aV D)
   | fail)
 all_goals
  go_wp2_with fail
  show bodyPost _ _ _ _ _ (put9 _ w aI (.string aK) aJ (.string aL) (.slice aE aN aQ) (.slice aF aO aR) (.slice aG aP aS) aH aM)
  exact Q7 (v:=.agg (Cp aI aK aJ aL aE aN aQ aF aO aR aG aP aS aH aM)) (by simp [results,results26,go_sem,Xb Z.out]) rfl (U3 aA.out I.out rfl)
end Go.Proofs.YtcljcblceodciaaGreatDoor
