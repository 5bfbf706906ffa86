import Derived.Test.YtcljcblceodciaaGreatDoorU20
import Derived.Test.YtcljcblceodciaaGreatDoorU18
set_option maxRecDepth 100000
set_option maxHeartbeats 400000000
namespace Go.Proofs.YtcljcblceodciaaGreatDoor
open Go.RowKit Go.Shelf Go.Lib Tryz
theorem Own.set5 {E:TypeId} {S:Nat->Prop} {B:Nat} {w:World} {g n cap:Nat} {xs:List Val} {css:List (List Value)} (hn:xs.length=n) (h:Own Zd E S B w (.slice (some ⟨g,0,none⟩) n cap) xs css) {i:Nat} (hi:i<n) {a b c d e:Value} {x:Val} (hx:Z9 (But S (.slice (some ⟨g,0,none⟩) n cap)) w [a,b,c,d,e] x):
  Own Zd E S B (((((w.setCell ⟨g,i*5,none⟩ a).setCell ⟨g,i*5+1,none⟩ b).setCell ⟨g,i*5+2,none⟩ c).setCell ⟨g,i*5+3,none⟩ d).setCell ⟨g,i*5+4,none⟩ e) (.slice (some ⟨g,0,none⟩) n cap) (xs.set i x) (css.set i [a,b,c,d,e]):=by
 subst hn
 have J:=h.cs.len
 have hA:∀ A,A≠g->(((((w.setCell ⟨g,i*5,none⟩ a).setCell ⟨g,i*5+1,none⟩ b).setCell ⟨g,i*5+2,none⟩ c).setCell ⟨g,i*5+3,none⟩ d).setCell ⟨g,i*5+4,none⟩ e).heap[A]?=w.heap[A]?:=fun A hb=>Xn hb
 refine ⟨by rw [List.length_set];exact store5 h.row J h.cs.all i hi a b c d e,⟨by rw [List.length_set,List.length_set];exact J,fun j cs y D G=>?_⟩⟩
 by_cases hj:j=i
 ·subst hj
  rw [List.getElem?_set_self (by rw [J];exact hi)] at D
  rw [List.getElem?_set_self hi] at G
  cases D;cases G
  exact hx.move (fun A I _=>hA A (fun e=>I.2 (by rw [e];rfl))) Qje
 rw [List.getElem?_set_ne (Ne.symm hj)] at D G
 exact Z9.move (h.cs.R j cs y D G) (fun A I _=>hA A (fun e=>I.2 (by rw [e];rfl))) Qje
theorem Cz (S:Nat->Prop) (v x:Val) (name:Bs) (cv cx:List Value) (w:World) (hv0:Z9 S w cv v) (hx0:Z9 S w cx x) (hbv:Y0 v) (hbx:Y0 x):
  Calls prog 173 #[cv,sv name,cx] w (Vj S w):=by
 have hv:Z9 (fun b=>S b/\b<w) w cv v:=hv0.move (.refl _ _) (fun b hb h=>⟨h,hb⟩)
 have hx:Z9 (fun b=>S b/\b<w) w cx x:=hx0.move (.refl _ _) (fun b hb h=>⟨h,hb⟩)
 clear hv0 hx0
 have HF:=Qq (fun W (hb:Below w w W)=>Ec _ v cv name W (hv.move (.of_below hb) Qje))
 obtain ⟨p3,k3,p4,k4,bB,bE,aB,cL⟩:=Z9.cells hv
 obtain ⟨q3,l3,q4,l4,bC,_⟩:=Z9.cells hx
 have cA:=Qq hx
 simp only [vcs] at bB bC
 subst bB;subst bC
 have hl:v.kids.length<=1000000:=by obtain ⟨_,_,_,h⟩:=aB.len;exact h
 obtain ⟨bR,aM,aJ,bL⟩:=Qjz bE aB hbv hbx
 obtain ⟨i0,j1,j2,j3,j4⟩:=Y7 (P:=prog) (t:=36) (z:=.agg zV) (n:=5) (b:=80) Cd
 obtain ⟨HJ,bM,bN,bO⟩:=Qjz j1 j2 j3 j4
 clear j1 j2 j3 j4
 clear hv hx bE aB hbv hbx
 unfold sv at HF |-
 cases hg:Yt v name with
 | none=>
  rw [Fw hg] at HF
  clear hg
  go_enter func173,ntmps173
  go_wp2_with fail
  refine (HF.out _ (Xm _ _ _ _)).mono ?_
  rintro e w1 ⟨rfl,V⟩
  have Y:=(V.block (w+2) Ca).trans (Zl _ _ _ _)
  have HW:=Qq V;have HR:=Qq Y
  obtain ⟨y0,y1,y2,y3,y4⟩:=row5 Y
  obtain ⟨f0,f1,f2,f3,f4⟩:=frz5 Y
  clear V Y
  go_wp2_with fail
  show bodyPost _ _ _ _ _ (Zi w1 (w+2) Ci Ci Cl Cm Cm)
  exact Q7 (v:=.tuple #[.agg zV,.bool false]) (by simp [results,results173,go_sem,Ze HR.out]) rfl ⟨0,0,⟨#[]⟩,none,0,0,none,0,0,false,rfl,(fun h=>by cases h),Zc ((Xm w _ _ _).thn HW.out) C7⟩
 | some u=>
  obtain ⟨i,hi,aA⟩:=Fe hg
  rw [hi] at HF
  obtain ⟨n,hn⟩:=eX (v.kids.length)
  have cK:i<n:=by rw [<- hn];exact (Qj aA).1
  rw [hn] at HF aM hl |-
  have HN:=Qq hn
  have cV:(0:Int)<=(i:Int):=C7
  have cW:(i:Int)<(n:Int):=C7
  have cX:decide ((i:Int)<0)=false:=Ca
  have bP:=Qq aA;have cS:=Qq hg
  clear hg hi aA hn
  go_enter func173,ntmps173
  go_wp2_with fail
  refine (HF.out _ (Xm _ _ _ _)).mono ?_
  rintro e w1 ⟨rfl,V⟩
  have hX:=(V.block w (by simp;omega)).trans (Zp _ _ _ _)
  have hY:=(V.block (w+1) Ca).trans (Zo _ _ _ _)
  have Y:=(V.block (w+1+1) Ca).trans (Zl _ _ _ _)
  have M:=(Xm w _ _ _).thn V
  obtain ⟨HX,HY,HR,aK⟩:=Qjz hX hY Y M
  have cQ:w.heap.size+1+1<w1.heap.size:=Z8 Y
  have c4:=rA4 hX
  have hA:Sl Zd (But (fun b=>S b/\b<w) (.slice none 0 0)) w1 (.slice p4 n k4) v.kids:=(aM.out.mono (S':=But (fun b=>S b/\b<w) (.slice none 0 0)) (fun b _ h=>⟨h,fun e=>by cases e⟩)).below M
  have HA:=Qq hA
  have bD:([]:List Val).length+v.kids.length=n:=by rw [HN.out];simp
  have bQ:=Qq bD
  clear V hX hY Y M hA bD
  go_upto_region 6 with (at_builtin;refine Yr (r:=Zd) Cc Xx rfl (.tmp 16) (.tmp 18) _ rfl 36 i0 (.agg zV) 80 underlying34 HJ.out bM.out bN.out bO.out rfl C7 (fun b=>S b/\b<w) (w+3) w1 (.slice none 0 0) [] [] rfl (Own.nil _ _ _ _ _) (.slice p4 n k4) v.kids rfl HA.out n bQ.out C7 C7 ?_;intro pa O cP wa aS aP;have D:=Qq aS;have G:=Qq aP;clear aS aP)
  rw [List.nil_append] at D
  obtain ⟨g,cO,bF,cT,cU⟩:=D.out.row.form (by rw [HN.out];omega)
  simp only [Qr] at bF
  obtain ⟨rfl,-,rfl⟩:=bF
  have aW:=kE G.out.below C7 HX.out
  have aY:=kE G.out.below C7 HY.out
  have aT:=kE G.out.below C7 HR.out
  have N:Below w w wa:=aK.out.trans (G.out.below.mono C7)
  have aV:Z9 (But (fun b=>S b/\b<w) (.slice (some ⟨g,0,none⟩) n O)) wa (Cn x q3 l3 q4 l4) x:=Z9.move cA.out (.of_below N) (fun b hb h=>⟨h,fun e=>by have:=(D.out.row.lt b e.symm).1;omega⟩)
  have aQ:=D.out.set5 HN.out cK aV
  obtain ⟨bq,oq,t3,s3,t4,s4,he,_,_,d0,d1,d2,d3,d4⟩:=(show Sl Zd (fun _=>True) wa (.slice (some ⟨g,0,none⟩) n O) v.kids by have:=D.out.sl (S':=fun _=>True) (by rw [HN.out];omega) (fun _ _=>trivial) (fun _ _ _=>trivial);exact this).val bP.out
  obtain ⟨rfl,rfl⟩:g=bq/\0=oq:=by simpa using he
  simp only [Nat.zero_add] at d0 d1 d2 d3 d4
  have A:=D.out.row
  rw [HN.out] at A
  have f0:=A.frozenAt (i*5);have f1:=A.frozenAt (i*5+1);have f2:=A.frozenAt (i*5+2);have f3:=A.frozenAt (i*5+3);have f4:=A.frozenAt (i*5+4)
  clear A
  obtain ⟨y0,y1,y2,y3,y4⟩:=row5 aY
  obtain ⟨bS,bY,bV,aL⟩:=Qjz aQ aW aT N
  have cR:=G.out.size
  clear he aQ aW aY aT N aV c4
  go_upto_region 7 with fail
  obtain ⟨W6,I⟩:=eX ((((((wa.setCell ⟨g,i*5,none⟩ (.int .i64 x.kind)).setCell ⟨g,i*5+1,none⟩ (.int .i64 x.n)).setCell ⟨g,i*5+2,none⟩ (.string ⟨x.s.toArray⟩)).setCell ⟨g,i*5+3,none⟩ (.slice q3 x.names.length l3)).setCell ⟨g,i*5+4,none⟩ (.slice q4 x.kids.length l4)))
  have aC:∀ b,b≠g->W6.heap[b]?=wa.heap[b]?:=fun b hb=>by rw [<- I];exact Xn hb
  have cY:W6.heap.size=wa.heap.size:=by rw [<- I];simp [World.setCell]
  have Z:=bS.out
  rw [I] at Z |-
  have U:=(aC w C7).trans bY.out
  have aU:=(aC (w+1+1) C7).trans bV.out
  have aZ:Below w w W6:=by
   rw [<- I]
   exact ((((aL.out.setCell (p:=⟨g,i*5,none⟩) (by show w<=g;omega) _).setCell (p:=⟨g,i*5+1,none⟩) (by show w<=g;omega) _).setCell (p:=⟨g,i*5+2,none⟩) (by show w<=g;omega) _).setCell (p:=⟨g,i*5+3,none⟩) (by show w<=g;omega) _).setCell (p:=⟨g,i*5+4,none⟩) (by show w<=g;omega) _
  obtain ⟨aN,bZ,bW,bK⟩:=Qjz Z U aU aZ
  obtain ⟨c0,c1,c2,c3,c4⟩:=row5 U
  have cG:=fA 4 U
  clear I aC Z U aU aZ d0 d1 d2 d3 d4 f0 f1 f2 f3 f4 y0 y1 y2 y3 y4
  go_upto_region 8 with fail
  obtain ⟨W7,J⟩:=eX (W6.setCell ⟨w,4,none⟩ (.slice (some ⟨g,0,none⟩) n O))
  rw [J]
  have aX:W7.heap[w.heap.size]?=some (.cells #[v.kind,v.n,v.s,.slice p3 v.names.length k3,Cg g 0 n O] 36 (0,0)):=by rw [<- J,Qi _ _ _ _ _ _ bZ.out];rfl
  have aD:∀ b,b≠w.heap.size->W7.heap[b]?=W6.heap[b]?:=fun b hb=>by rw [<- J];exact Za hb
  have T:=(aD (w+1+1) C7).trans bW.out
  have bA:Below w w W7:=by rw [<- J];exact bK.out.setCell (p:=⟨w,4,none⟩) (Q9 _) _
  have aR:Own Zd 36 (fun b=>S b/\b<w) (w+3) W7 (.slice (some ⟨g,0,none⟩) n O) (v.kids.set i x) _:=aN.out.move (Q9 _) (fun b _ h=>aD b (by
   rcases h with h | h
   ·have:=h.2;omega
   have:=(aN.out.row.lt b h).1;omega))
  obtain ⟨bX,aI,bT⟩:=Qjq T bA aR
  clear c0 c1 c2 c3 c4 cG
  obtain ⟨e0,e1,e2,e3,e4⟩:=row5 aX
  obtain ⟨r0,r1,r2,r3,r4⟩:=row5 T
  obtain ⟨f0,f1,f2,f3,f4⟩:=frz5 T
  clear J aX aD T bA aR
  go_wp2_with fail
  show bodyPost _ _ _ _ _ (Zi W7 (w+1+1) v.kind v.n v.s (.slice p3 v.names.length k3) (Cg g 0 n O))
  refine Q7 (v:=.tuple #[.agg #[v.kind,v.n,v.s,.slice p3 v.names.length k3,Cg g 0 n O],.bool true]) (by simp [results,results173,go_sem,Ze bX.out]) rfl ⟨v.kind,v.n,⟨v.s.toArray⟩,p3,v.names.length,k3,some ⟨g,0,none⟩,n,O,true,rfl,fun _=>⟨.mk v.kind v.n v.s v.names (v.kids.set i x),?_,?_⟩,Zc aI.out C7⟩
  ·have cJ:(v.kids.set i x).length=n:=by rw [List.length_set,HN.out]
   have cI:Sl Zd (fun b=>(S b/\b<w)\/w+3<=b) W7 (.slice (some ⟨g,0,none⟩) n O) (v.kids.set i x):=bT.out.sl (by rw [cJ];omega) (fun b hb=>.inr hb) (fun b _ h=>.inl h)
   refine Y5 cL ?_ ?_
   ·exact ((bR.out.below aI.out).frame (fun b hb _=>Zf (by have:=hb.2;omega))).mono (fun b _ hb=>.inl hb.1)
   refine (cI.frame (fun b hb _=>Zf C7)).mono (fun b _ hb=>?_)
   rcases hb with h | h
   ·exact .inl h.1
   exact .inr C7
  refine .mk _ _ _ _ _ (fun h=>aJ.out.bool h) (fun y hy=>?_)
  rcases List.mem_or_eq_of_mem_set hy with h | h
  ·exact aJ.out.kids y h
  rw [h];exact bL.out
def Ba:List Bs:=[[61,61],[33,61],[60],[60,61],[43],[45],[42],[43,43],[97,110,100],[111,114],[110,111,116]]
structure Ee (k:Int) (nm:Bs) (names binds:List Bs) (n:Nat):Prop where
 few:n<=1000
 fewn:names.length<=1000
 words:k=6->∀ x ∈ names,Vy x
 one:k=7->names.length=1/\n=2
 fld:k=8->1<=n
 two:k=11->n=2
 three:k=12->n=3
 mtch:k=13->n=names.length+1/\binds.length=names.length
 op:k=14->nm ∈ Ba/\n=if nm=[110,111,116] then 1 else 2
inductive WfE:Nat->Ex->Prop
 | mk (d:Nat) (k:Int) (nm:Bs) (n:Int) (s:Bs) (names binds:List Bs) (kids:List Ex) (a z:Int) (hn:Ee k nm names binds kids.length) (hk:∀ x ∈ kids,WfE d x):WfE (d+1) (.mk k nm n s names binds kids a z)
theorem A5 (k:Int) (nm:Bs) (hk:k<=5\/k=9):Ee k nm [] [] 0:=⟨C7,Ca,fun h=>C7,fun h=>C7,fun h=>C7,fun h=>C7,fun h=>C7,fun h=>C7,fun h=>C7⟩
theorem Fd (d:Nat) (k:Int) (nm:Bs) (n:Int) (s:Bs) (hk:k<=5\/k=9):WfE (d+1) (.mk k nm n s [] [] [] 0 0):=.mk _ _ _ _ _ _ _ _ _ _ (A5 k nm hk) (fun x h=>by simp at h)
theorem wf_2 {d:Nat} {a b:Ex} (ha:WfE d a) (hb:WfE d b):∀ x ∈ [a,b],WfE d x:=by
 intro x hx
 simp only [Z3,Z2,or_false] at hx
 rcases hx with rfl | rfl
 ·exact ha
 exact hb
theorem wf_1 {d:Nat} {a:Ex} (ha:WfE d a):∀ x ∈ [a],WfE d x:=by
 intro x hx
 simp only [Z3,Z2,or_false] at hx
 subst hx;exact ha
theorem wf_3 {d:Nat} {a b c:Ex} (ha:WfE d a) (hb:WfE d b) (hc:WfE d c):∀ x ∈ [a,b,c],WfE d x:=by
 intro x hx
 simp only [Z3,Z2,or_false] at hx
 rcases hx with rfl | rfl | rfl
 ·exact ha
 ·exact hb
 exact hc
theorem V9 {d:Nat} {o:Bs} {a b:Ex} (ho:o ∈ Ba/\o≠[110,111,116]) (ha:WfE d a) (hb:WfE d b):WfE (d+1) (Gen.op o [a,b]):=
 .mk _ _ _ _ _ _ _ _ _ _ ⟨Ca,Ca,fun h=>C7,fun h=>C7,fun h=>C7,fun h=>C7,fun h=>C7,fun h=>C7,fun _=>⟨ho.1,by rw [if_neg ho.2];rfl⟩⟩ (wf_2 ha hb)
theorem wf_not {d:Nat} {a:Ex} (ha:WfE d a):WfE (d+1) (Gen.op [110,111,116] [a]):=
 .mk _ _ _ _ _ _ _ _ _ _ ⟨Ca,Ca,fun h=>C7,fun h=>C7,fun h=>C7,fun h=>C7,fun h=>C7,fun h=>C7,fun _=>⟨by simp [Ba],Ca⟩⟩ (wf_1 ha)
theorem Xv (d:Nat) (x:Bs):WfE (d+1) (Gen.var x):=Fd _ _ _ _ _ C7
theorem Eu (d:Nat) (n:Int):WfE (d+1) (Gen.int n):=Fd _ _ _ _ _ C7
theorem Fy (d:Nat) (n:Int):WfE (d+1) (Gen.bool n):=Fd _ _ _ _ _ C7
theorem wf_str (d:Nat) (x:Bs):WfE (d+1) (Gen.str x):=Fd _ _ _ _ _ C7
theorem word_x:∀ x ∈ ([[121],[120]]:List Bs),Vy x:=by
 intro x hx
 simp only [Z3,Z2,or_false] at hx
 rcases hx with rfl | rfl
 all_goals exact ⟨Cc,Cc,Cc,Cc,Cc⟩
theorem wf_rec (d:Nat):WfE (d+2) Gen.rec:=
 .mk _ _ _ _ _ _ _ _ _ _ ⟨Ca,Ca,fun _=>word_x,fun h=>C7,fun h=>C7,fun h=>C7,fun h=>C7,fun h=>C7,fun h=>C7⟩ (wf_2 (Xv _ _) (Xv _ _))
theorem wf_wth (d:Nat):WfE (d+3) Gen.wth:=
 .mk _ _ _ _ _ _ _ _ _ _ ⟨Ca,Ca,fun h=>C7,fun _=>⟨rfl,rfl⟩,fun h=>C7,fun h=>C7,fun h=>C7,fun h=>C7,fun h=>C7⟩ (wf_2 (wf_rec _) (Eu _ _))
theorem wf_fld {d:Nat} (x:Bs) {a:Ex} (ha:WfE d a):WfE (d+1) (.mk 8 x 0 [] [] [] [a] 0 0):=
 .mk _ _ _ _ _ _ _ _ _ _ ⟨Ca,Ca,fun h=>C7,fun h=>C7,fun _=>Ca,fun h=>C7,fun h=>C7,fun h=>C7,fun h=>C7⟩ (wf_1 ha)
theorem Tv {d:Nat} {a b:Ex} (ha:WfE d a) (hb:WfE d b):WfE (d+1) (.mk 9 [] 0 [] [] [] [a,b] 0 0):=
 .mk _ _ _ _ _ _ _ _ _ _ ⟨Ca,Ca,fun h=>C7,fun h=>C7,fun h=>C7,fun h=>C7,fun h=>C7,fun h=>C7,fun h=>C7⟩ (wf_2 ha hb)
theorem wf_check:∀ k:Nat,WfE 8 (Gen.check k)
 | 0=>Fy _ _
 | 1=>Fy _ _
 | 2=>Fy _ _
 | 3=>V9 Cc (Xv _ _) (V9 Cc (Xv _ _) (V9 Cc (Eu _ _) (Eu _ _)))
 | 4=>V9 Cc (Xv _ _) (V9 Cc (Xv _ _) (wf_str _ _))
 | 5=>.mk _ _ _ _ _ _ _ _ _ _ ⟨Ca,Ca,fun h=>C7,fun h=>C7,fun h=>C7,fun h=>C7,fun _=>rfl,fun h=>C7,fun h=>C7⟩ (wf_3 (Xv _ _) (V9 Cc (Xv _ _) (Xv _ _)) (V9 Cc (Xv _ _) (Xv _ _)))
 | 6=>.mk _ _ _ _ _ _ _ _ _ _ ⟨Ca,Ca,fun h=>C7,fun h=>C7,fun h=>C7,fun h=>C7,fun h=>C7,fun _=>⟨rfl,rfl⟩,fun h=>C7⟩ (wf_3 (Xv _ _) (Fy _ _) (V9 Cc (Xv _ _) (Xv _ _)))
 | 7=>V9 Cc (wf_fld _ (wf_wth _)) (wf_fld _ (wf_rec _))
 | 8=>.mk _ _ _ _ _ _ _ _ _ _ ⟨Ca,Ca,fun h=>C7,fun h=>C7,fun h=>C7,fun _=>rfl,fun h=>C7,fun h=>C7,fun h=>C7⟩ (wf_2 (V9 Cc (Xv _ _) (Xv _ _)) (V9 Cc (V9 Cc (Xv _ _) (Eu _ _)) (wf_not (Xv _ _))))
 | 9=>V9 Cc (V9 Cc (Xv _ _) (Xv _ _)) (wf_str _ _)
 | 10=>V9 Cc (Xv _ _) (V9 Cc (Xv _ _) (Xv _ _))
 | 11=>V9 Cc (Tv (Xv _ _) (Xv _ _)) (Tv (Eu _ _) (Xv _ _))
 | (k+12)=>.mk _ _ _ _ _ _ _ _ _ _ ⟨Ca,Ca,fun h=>C7,fun h=>C7,fun h=>C7,fun h=>C7,fun h=>C7,fun h=>C7,fun h=>C7⟩ (wf_1 (Fd _ _ _ _ _ C7))
theorem wf_yes (d:Nat):WfE (d+1) Gen.yes:=Fy _ _
theorem Gn (nm:Bs) (n:Int) (s:Bs) (names binds:List Bs) (kids:List Ex) (a z:Int) (env:List (Bs × Val)) (r:Option Val)
  (hop:∀ (lb:Array Value) (S0:Nat->Prop) (W:World),(∀ b,S0 b->b≠W.heap.size)->(∀ (k:Nat) (e:Ex) (t:Option Val),kids[k]?=some e->EvO e env t->∀ W',Below W W W'->W<W'.heap.size->Calls prog 140 (#[.int .i64 k]++lb) W' (Xy S0 W' t)) ->
   Calls prog 147 #[nm,.func (.func 140) #[] lb,kids.length] W (Xy S0 W r)):EvO (.mk 14 nm n s names binds kids a z) env r:=by
 intro S0 S' cs p w aN aC aB aA
 have aH:=Qq aC
 clear aC
 have he:Xk (fun b=>S0 b/\b<w.heap.size) w p env:=aA.move (.refl _ _) (fun b hb h=>⟨h,hb⟩)
 obtain ⟨nv,bv,kv,rfl,aT,aU,hn,hb,hk⟩:=Yy.1 aB
 obtain ⟨np,nc,rfl,_⟩:=hn.len
 obtain ⟨bp,bc,rfl,_⟩:=hb.len
 obtain ⟨kp,kc,rfl,aQ⟩:=hk.len
 obtain ⟨q,rfl⟩:=he.ptr
 obtain ⟨HE,HK,aJ,aF⟩:=Qjz he hk hn hb
 obtain ⟨kl,A⟩:=eX (kids.length)
 rw [A] at HK aQ
 have N:=Qq A
 clear aB he aA hn hb hk
 unfold sv
 rw [A]
 clear A
 go_enter func103,ntmps103
 go_upto_region 3 with fail
 generalize G:((w.alloc _).alloc _).alloc _=V
 have D:=eqB G (Xm _ _ _ _)
 have J:=eqH (b:=w.heap.size) G (Zp _ _ _ _)
 have h1:=eqH (b:=w.heap.size+1) G (Zo _ _ _ _)
 have h2:=eqH (b:=w.heap.size+1+1) G (Zl _ _ _ _)
 have aV:w.heap.size+1+1<V.heap.size:=Z8 h2
 have c0:=rA0 J;have c1:=rA1 J;have c2:=rA2 J;have c3:=rA3 J;have c4:=rA4 J;have c5:=rA5 J;have c6:=rA6 J
 obtain ⟨H0,H1,H2,Y⟩:=Qjz J h1 h2 D
 have M:=Qq (fun (k:Nat) e9 r9 (T:kids[k]?=some e9) (O:EvO e9 env r9) W (hbw:Below V V W) (x9:Nat) (hxl:w<=x9) (hxW:x9<W)=>K9 w (w+1) k (fun b=>S0 b/\b≠w.heap.size+1+1/\b≠x9) S' kp kc kids e9 (.pointer q) env r9 W
  (by rw [N.out];exact (Qk _ _ 6 _ _ _ (kB hbw J)).trans rfl) (by rw [N.out];exact (HK.out.below D).below hbw) ((Qk _ _ 0 _ _ _ (kB hbw h1)).trans rfl) (fun b hb=>⟨aN b (C9 D.size hbw.size),by have:=hbw.size;omega,C7⟩) (aH.out.below (D.thn hbw)) ((HE.out.move (.of_below D) Qje).move (.of_below hbw) (fun b _ h=>⟨h.1,by have:=h.2;omega,by have:=h.2;omega⟩)) T O)
 have HL:=Qq (hop #[Ch w,Ch (w+1)] (fun b=>S0 b/\b≠w.heap.size+1+1/\b≠V.heap.size) V (fun b hb=>hb.2.2) (fun k e t T O W' hW aR=>M.out k e t T O W' hW V C7 aR))
 rw [N.out] at HL
 clear J h1 h2 D G HE HK M hop c2 c3 c4 c5 aJ aF
 cases r with
 | none=>
  go_wp2_with fail
  refine HL.out.mono ?_
  rintro e w4 ⟨rfl,I⟩
  exact ⟨rfl,rfl,Y.out.thn I⟩
 | some r=>
  go_wp2_with fail
  refine HL.out.mono ?_
  rintro e w4 ⟨cr,rfl,U,I⟩
  obtain ⟨q3,l3,q4,l4,Z,_⟩:=Z9.cells U
  simp only [vcs] at Z
  subst Z
  have hR:=kB I H2.out
  have aE:=Qq (Y.out.thn I)
  have aK:=Qq U
  have HR:=Qq hR
  have fz:=fun j=>Qn _ _ j _ _ hR
  obtain ⟨f0,f1,f2,f3,f4⟩:=Qjw fz
  have rr:=fun j=>Qk _ _ j _ _ _ hR
  obtain ⟨r0,r1,r2,r3,r4⟩:=Qjw rr
  simp only [Qf,Qg,Qh] at r0 r1 r2 r3 r4
  clear fz rr U I hR
  go_wp2_with fail
  show bodyPost _ _ _ _ _ (Cu w4 (w+1+1) r q3 l3 q4 l4)
  refine Q7 (v:=.agg (Cn r q3 l3 q4 l4)) (by simp [results,results103,go_sem,Ze HR.out]) rfl ⟨_,rfl,?_,Zc aE.out C7⟩
  exact Z9.move aK.out (fun b hb _=>Zf (by have:=hb.2.1;omega)) (fun _ _ h=>h.1)
theorem ev_int (nm:Bs) (n:Int) (s:Bs) (names binds:List Bs) (kids:List Ex) (a z:Int) (env:List (Bs × Val)) :EvO (.mk 0 nm n s names binds kids a z) env (some (.mk 0 n [] [] [])):=by
 intro S0 S' cs p w aE O N M
 have aD:=Qq O
 clear O
 have Y:Xk (fun b=>S0 b/\b<w) w p env:=M.move (.refl _ _) (fun b hb h=>⟨h,hb⟩)
 obtain ⟨nv,bv,kv,rfl,aF,aG,hn,hb,Z⟩:=Yy.1 N
 obtain ⟨np,nc,rfl,_⟩:=hn.len
 obtain ⟨bp,bc,rfl,_⟩:=hb.len
 obtain ⟨kp,kc,rfl,aA⟩:=Z.len
 obtain ⟨q,rfl⟩:=Y.ptr
 obtain ⟨HE,HK,V,U⟩:=Qjz Y Z hn hb
 obtain ⟨kl,A⟩:=eX (kids.length)
 rw [A] at HK aA
 have aC:=Qq A
 clear N Y M hn hb Z
 unfold sv
 rw [A]
 clear A
 go_enter func103,ntmps103
 go_upto_region 3 with fail
 generalize D:((w.alloc _).alloc _).alloc _=w3
 have J:=eqB D (Xm _ _ _ _)
 have G:=eqH (b:=w.heap.size) D (Zp _ _ _ _)
 have h1:=eqH (b:=w.heap.size+1) D (Zo _ _ _ _)
 have I:=eqH (b:=w.heap.size+1+1) D (Zl _ _ _ _)
 have aH:w.heap.size+1+1<w3.heap.size:=Z8 I
 have c0:=rA0 G;have c1:=rA1 G;have c2:=rA2 G;have c3:=rA3 G;have c4:=rA4 G;have c5:=rA5 G;have c6:=rA6 G
 obtain ⟨H0,H1,H2,T⟩:=Qjz G h1 I J
 have fz:=fun j=>Qn _ _ j _ _ I;obtain ⟨f0,f1,f2,f3,f4⟩:=Qjw fz;have rr:=fun j=>Qk _ _ j _ _ _ I;obtain ⟨r0,r1,r2,r3,r4⟩:=Qjw rr
 simp only [Qf,Qg,Qh] at r0 r1 r2 r3 r4
 clear G h1 I J D HE HK c1 c3 c4 c5 c6 V U fz rr
 go_wp2_with fail
 show bodyPost _ _ _ _ _ (Zi w3 (w+1+1) Ci n Cl Cm Cm)
 refine Q7 (v:=.agg #[Ci,n,Cl,Cm,Cm]) (by simp [results,results103,go_sem,Ze H2.out]) rfl ⟨_,rfl,Y5 (s:=[]) Ca (Sl.nil _ _ _) (Sl.nil _ _ _),Zc T.out C7⟩
theorem ev_text (nm:Bs) (n:Int) (s:Bs) (names binds:List Bs) (kids:List Ex) (a z:Int) (env:List (Bs × Val)) (hs:s.length<=4096):EvO (.mk 1 nm n s names binds kids a z) env (some (.mk 1 0 s [] [])):=by
 intro S0 S' cs p w aE O N M
 have aD:=Qq O
 clear O
 have Y:Xk (fun b=>S0 b/\b<w) w p env:=M.move (.refl _ _) (fun b hb h=>⟨h,hb⟩)
 obtain ⟨nv,bv,kv,rfl,aF,aH,hn,hb,Z⟩:=Yy.1 N
 obtain ⟨np,nc,rfl,_⟩:=hn.len
 obtain ⟨bp,bc,rfl,_⟩:=hb.len
 obtain ⟨kp,kc,rfl,aA⟩:=Z.len
 obtain ⟨q,rfl⟩:=Y.ptr
 obtain ⟨HE,HK,V,U⟩:=Qjz Y Z hn hb
 obtain ⟨kl,A⟩:=eX (kids.length)
 rw [A] at HK aA
 have aC:=Qq A
 clear N Y M hn hb Z
 unfold sv
 rw [A]
 clear A
 go_enter func103,ntmps103
 go_upto_region 3 with fail
 generalize D:((w.alloc _).alloc _).alloc _=w3
 have J:=eqB D (Xm _ _ _ _)
 have G:=eqH (b:=w.heap.size) D (Zp _ _ _ _)
 have h1:=eqH (b:=w.heap.size+1) D (Zo _ _ _ _)
 have I:=eqH (b:=w.heap.size+1+1) D (Zl _ _ _ _)
 have aI:w.heap.size+1+1<w3.heap.size:=Z8 I
 have c0:=rA0 G;have c1:=rA1 G;have c2:=rA2 G;have c3:=rA3 G;have c4:=rA4 G;have c5:=rA5 G;have c6:=rA6 G
 obtain ⟨H0,H1,H2,T⟩:=Qjz G h1 I J
 have aG:(s.length:Int)<=4096:=C7
 have HM:=Qq X9
 have fz:=fun j=>Qn _ _ j _ _ I;obtain ⟨f0,f1,f2,f3,f4⟩:=Qjw fz;have rr:=fun j=>Qk _ _ j _ _ _ I;obtain ⟨r0,r1,r2,r3,r4⟩:=Qjw rr
 simp only [Qf,Qg,Qh] at r0 r1 r2 r3 r4
 clear G h1 I J D HE HK c1 c2 c4 c5 c6 V U fz rr
 go_wp2_with (go_at_call 142;refine (HM.out _).mono ?_;rintro e w' ⟨rfl,rfl⟩)
 show bodyPost _ _ _ _ _ (Zi w3 (w+1+1) (.int .i64 1) Ci s Cm Cm)
 refine Q7 (v:=.agg #[.int .i64 1,Ci,s,Cm,Cm]) (by simp [results,results103,go_sem,Ze H2.out]) rfl ⟨_,rfl,Y5 C7 (Sl.nil _ _ _) (Sl.nil _ _ _),Zc T.out C7⟩
def ifR (r0 r1 r2:Option Val):Option Val:=match r0 with
 | some v=>if v.kind=2 then (if (v.n==1)=true then r1 else r2) else none
 | none=>none
theorem ev_if (nm:Bs) (n:Int) (s:Bs) (names binds:List Bs) (x y t:Ex) (a z:Int) (env:List (Bs × Val)) (r0 r1 r2:Option Val) (hx:EvO x env r0) (hy:EvO y env r1) (ht:EvO t env r2):EvO (.mk 12 nm n s names binds [x,y,t] a z) env (ifR r0 r1 r2):=by
 obtain ⟨R,I⟩:=eX (ifR r0 r1 r2)
 rw [I]
 intro S0 S' cs p w bL aY aX aW
 have bG:=Qq aY
 clear aY
 have he:Xk (fun b=>S0 b/\b<w) w p env:=aW.move (.refl _ _) (fun b hb h=>⟨h,hb⟩)
 obtain ⟨nv,bv,kv,rfl,bR,bS,hn,hb,hk⟩:=Yy.1 aX
 obtain ⟨np,nc,rfl,_⟩:=hn.len
 obtain ⟨bp,bc,rfl,_⟩:=hb.len
 obtain ⟨kp,kc,rfl,bN⟩:=hk.len
 obtain ⟨q,rfl⟩:=he.ptr
 obtain ⟨HE,HK,bH,bE⟩:=Qjz he hk hn hb
 obtain ⟨kl,Y⟩:=eX ([x,y,t].length)
 rw [Y] at HK bN
 have aQ:=Qq Y
 clear aX he aW hn hb hk
 unfold sv
 rw [Y]
 clear Y
 go_enter func103,ntmps103
 go_upto_region 3 with fail
 generalize aB:((w.alloc _).alloc _).alloc _=U
 have Z:=eqB aB (Xm _ _ _ _)
 have h0:=eqH (b:=w.heap.size) aB (Zp _ _ _ _)
 have h1:=eqH (b:=w.heap.size+1) aB (Zo _ _ _ _)
 have h2:=eqH (b:=w.heap.size+1+1) aB (Zl _ _ _ _)
 have bT:w.heap.size+1+1<U.heap.size:=Z8 h2
 have c0:=rA0 h0;have c1:=rA1 h0;have c2:=rA2 h0;have c3:=rA3 h0;have c4:=rA4 h0;have c5:=rA5 h0;have c6:=rA6 h0
 obtain ⟨H0,H1,H2,aE⟩:=Qjz h0 h1 h2 Z
 have V:=Qq (fun (k:Nat) e9 r9 (hke:[x,y,t][k]?=some e9) (hev:EvO e9 env r9) W (hbw:Below U U W) (x9:Nat) (hxl:w<=x9) (hxW:x9<W)=>K9 w (w+1) k (fun b=>S0 b/\b≠w+1+1/\b≠x9) S' kp kc [x,y,t] e9 (.pointer q) env r9 W
  (by rw [aQ.out];exact (Qk _ _ 6 _ _ _ (kB hbw h0)).trans rfl) (by rw [aQ.out];exact (HK.out.below Z).below hbw) ((Qk _ _ 0 _ _ _ (kB hbw h1)).trans rfl) (fun b hb=>⟨bL b (C9 Z.size hbw.size),by have:=hbw.size;omega,C7⟩) (bG.out.below (Z.thn hbw)) ((HE.out.move (.of_below Z) Qje).move (.of_below hbw) (fun b _ h=>⟨h.1,by have:=h.2;omega,by have:=h.2;omega⟩)) hke hev)
 have M:Hid (∀ W,Below U U W->Calls prog 140 #[Ci,Ch w,Ch (w+1)] W (Xy (fun b=>S0 b/\b≠w+1+1/\b≠w+1+1) W r0)):=Qq (fun W hW=>V.out 0 x r0 rfl hx W hW (w+1+1) C7 (C8 hW.size))
 have aO:Hid (∀ W,Below U U W->Calls prog 140 #[.int .i64 1,Ch w,Ch (w+1)] W (Xy (fun b=>S0 b/\b≠w+1+1/\b≠w+1+1) W r1)):=Qq (fun W hW=>V.out 1 y r1 rfl hy W hW (w+1+1) C7 (C8 hW.size))
 have aP:Hid (∀ W,Below U U W->Calls prog 140 #[.int .i64 2,Ch w,Ch (w+1)] W (Xy (fun b=>S0 b/\b≠w+1+1/\b≠w+1+1) W r2)):=Qq (fun W hW=>V.out 2 t r2 rfl ht W hW (w+1+1) C7 (C8 hW.size))
 clear h0 h1 h2 Z aB HE HK V hx hy ht c1 c2 c3 c4 c5 c6 bH bE
 cases r0 with
 | none=>
  obtain rfl:none=R:=I
  go_wp2_with (go_at_call 140;refine (M.out _ (Qz _ _)).mono ?_;rintro e w4 ⟨rfl,hb⟩)
  exact ⟨rfl,rfl,aE.out.thn hb⟩
 | some u=>
  by_cases hk:u.kind=2
  ·have HT:=Qq (fun cu W (T:Z9 (fun b=>S0 b/\b≠w+1+1/\b≠w+1+1) W cu u)=>U5 _ u cu W T hk)
   obtain ⟨b,aL⟩:=eX ((u.n==1))
   have J:ifR (some u) r1 r2=if b=true then r1 else r2:=by unfold ifR;dsimp only;rw [if_pos hk,aL]
   rw [J] at I
   simp only [aL] at HT
   clear J hk aL
   cases b
   ·obtain rfl:r2=R:=I
    go_wp2_with (first
     | (go_at_call 102;refine (HT.out _ _ HU.out).mono ?_;rintro e w5 ⟨rfl,hb⟩;have D:=Qq (G.out.thn hb);clear hb)
     | (go_at_call 140;refine (M.out _ (Qz _ _)).mono ?_;rintro e w4 ⟨cu,rfl,T,hb⟩;obtain ⟨a3,aT,a4,aU,A,_⟩:=Z9.cells T;simp only [vcs] at A;subst A;have HU:=Qq T;have G:=Qq ((Qz U U).thn hb);clear T hb;clear M))
    have aJ:=Qq (kB D.out H2.out)
    have aA:=Qq (aE.out.thn D.out)
    cases r2 with
    | none=>
     refine (aP.out _ D.out).mono ?_
     rintro e w8 ⟨rfl,aM⟩
     exact ⟨rfl,rfl,aA.out.thn aM⟩
    | some r=>
     refine (aP.out _ D.out).mono ?_
     rintro e w4 ⟨cr,rfl,O,N⟩
     obtain ⟨q3,l3,q4,l4,A,_⟩:=Z9.cells O
     simp only [vcs] at A
     subst A
     have I:=kB N aJ.out
     have aH:=Qq (aA.out.thn N)
     have aI:=Qq O
     have HR:=Qq I
     have fz:=fun j=>Qn _ _ j _ _ I
     obtain ⟨f0,f1,f2,f3,f4⟩:=Qjw fz
     have rr:=fun j=>Qk _ _ j _ _ _ I
     obtain ⟨r0,r1,r2,r3,r4⟩:=Qjw rr
     simp only [Qf,Qg,Qh] at r0 r1 r2 r3 r4
     clear fz rr O N I
     go_wp2_with fail
     show bodyPost _ _ _ _ _ (Cu w4 (w+1+1) r q3 l3 q4 l4)
     refine Q7 (v:=.agg (Cn r q3 l3 q4 l4)) (by simp [results,results103,go_sem,Ze HR.out]) rfl ⟨_,rfl,?_,Zc aH.out C7⟩
     exact Z9.move aI.out (fun b hb _=>Zf (by have:=hb.2.1;omega)) (fun _ _ h=>h.1)
   obtain rfl:r1=R:=I
   go_wp2_with (first
    | (go_at_call 102;refine (HT.out _ _ HU.out).mono ?_;rintro e w5 ⟨rfl,hb⟩;have D:=Qq (G.out.thn hb);clear hb)
    | (go_at_call 140;refine (M.out _ (Qz _ _)).mono ?_;rintro e w4 ⟨cu,rfl,T,hb⟩;obtain ⟨a3,aT,a4,aU,A,_⟩:=Z9.cells T;simp only [vcs] at A;subst A;have HU:=Qq T;have G:=Qq ((Qz U U).thn hb);clear T hb;clear M))
   have aJ:=Qq (kB D.out H2.out)
   have aA:=Qq (aE.out.thn D.out)
   cases r1 with
   | none=>
    refine (aO.out _ D.out).mono ?_
    rintro e w8 ⟨rfl,aM⟩
    exact ⟨rfl,rfl,aA.out.thn aM⟩
   | some r=>
    refine (aO.out _ D.out).mono ?_
    rintro e w4 ⟨cr,rfl,O,N⟩
    obtain ⟨q3,l3,q4,l4,A,_⟩:=Z9.cells O
    simp only [vcs] at A
    subst A
    have I:=kB N aJ.out
    have aH:=Qq (aA.out.thn N)
    have aI:=Qq O
    have HR:=Qq I
    have fz:=fun j=>Qn _ _ j _ _ I
    obtain ⟨f0,f1,f2,f3,f4⟩:=Qjw fz
    have rr:=fun j=>Qk _ _ j _ _ _ I
    obtain ⟨r0,r1,r2,r3,r4⟩:=Qjw rr
    simp only [Qf,Qg,Qh] at r0 r1 r2 r3 r4
    clear fz rr O N I
    go_wp2_with fail
    show bodyPost _ _ _ _ _ (Cu w4 (w+1+1) r q3 l3 q4 l4)
    refine Q7 (v:=.agg (Cn r q3 l3 q4 l4)) (by simp [results,results103,go_sem,Ze HR.out]) rfl ⟨_,rfl,?_,Zc aH.out C7⟩
    exact Z9.move aI.out (fun b hb _=>Zf (by have:=hb.2.1;omega)) (fun _ _ h=>h.1)
  have HT:=Qq (fun cu W (T:Z9 (fun b=>S0 b/\b≠w+1+1/\b≠w+1+1) W cu u)=>Nf _ u cu W T hk)
  have J:ifR (some u) r1 r2=none:=by unfold ifR;dsimp only;rw [if_neg hk]
  rw [J] at I
  obtain rfl:none=R:=I
  clear J hk
  go_wp2_with (first
   | (go_at_call 102;refine (HT.out _ _ HU.out).mono ?_;rintro e w5 ⟨rfl,hb⟩)
   | (go_at_call 140;refine (M.out _ (Qz _ _)).mono ?_;rintro e w4 ⟨cu,rfl,T,hb⟩;obtain ⟨a3,aT,a4,aU,A,_⟩:=Z9.cells T;simp only [vcs] at A;subst A;have HU:=Qq T;have G:=Qq ((Qz U U).thn hb);clear T hb;clear M))
  exact ⟨rfl,rfl,aE.out.thn (G.out.thn hb)⟩
def Mx (w:World) (l:List Rel) (e:Ending) (w':World):Prop:=∃ p cap,e=.returned (.slice p l.length cap)/\Sl Y6 (fun _=>True) w' (.slice p l.length cap) l/\Below w w w'
theorem Dh (S0 S1:Nat->Prop) (lv:Value) (l:List Rel) (tn:Bs) (x:Val) (cx:List Value) (w:World) (i:Nat) (o:Rel) (hl0:Sl Y6 S0 w lv l) (hx0:Z9 S1 w cx x) (hf:l.findIdx? (fun r=>decide (r.table=tn))=some i) (ho:l[i]?=some o)
  (hne:∀ y ∈ o.rows,eqv y x=false) (hgr:∀ y ∈ o.rows,decide (0<Yv y x)=false) (hrl:∀ r ∈ l,r.rows.length<=10000):
  Calls prog 25 #[lv,sv tn,cx] w (Mx w (l.set i ⟨o.table,o.rows++[x]⟩)):=by
 have hx:Z9 (fun b=>b<w) w cx x:=hx0.move (.refl _ _) (fun b hb _=>hb)
 have aG:=Qq (fun W (hb:Below w w W)=>Pf S0 lv l W (hl0.below hb))
 have cG:Vx (fun r=>decide (r.table=tn)) l=i:=by unfold Vx;rw [hf]
 have aH:=Qq (fun v W (hs:Sl Y6 (fun _=>True) W v l)=>G5 _ v l tn W hs)
 rw [cG] at aH
 have cF:i<l.length:=(Qj ho).1
 have cH:l.length<=1000000:=by obtain ⟨_,_,_,h⟩:=hl0.len;exact h
 obtain ⟨lp,lc,rfl,_⟩:=hl0.len
 obtain ⟨HX,HO,bQ⟩:=Qjq hx ho hrl
 have dQ:=hrl o (Qy ho)
 have aY:o.rows.any (fun v=>eqv v x)=false:=by rw [List.any_eq_false];intro y hy;rw [hne y hy];decide
 have aZ:Vx (fun v=>decide (0<Yv v x)) o.rows=-1:=U4 (fun j y hy=>hgr y (Qy hy))
 obtain ⟨x3,aS,x4,aT,cD,_⟩:=Z9.cells hx
 simp only [vcs] at cD
 have HB:=Qq (fun v W (hb:Below w w W) (hs:Sl Zd (fun _=>True) W v o.rows) (hc:∀ j u,cx[j]?=some u->W.cell? ⟨w,j,none⟩=some u) (hR:w<W.heap.size)=>conFn Tryz.cfVal Zd isAgg36 sizeOf36 81 #[Ch w] (enters_of func81 Cd rfl) (fun _=>True) v o.rows W _ hs
  (ins1_any w (fun _=>True) x cx o.rows W hc hR (hx.move (.of_below hb) (fun _ _ _=>trivial))))
 have HI:=Qq (fun v W (hb:Below w w W) (hs:Sl Zd (fun _=>True) W v o.rows) (hc:∀ j u,cx[j]?=some u->W.cell? ⟨w,j,none⟩=some u) (hR:w<W.heap.size)=>Bg Tryz.ixVal Zd isAgg36 sizeOf36 82 #[Ch w] (enters_of func82 Cd rfl) (fun _=>True) v o.rows W _ hs
  (ins2_any w (fun _=>True) x cx o.rows W hc hR (hx.move (.of_below hb) (fun _ _ _=>trivial))))
 rw [aY] at HB
 rw [aZ] at HI
 subst cD
 clear hx hx0 hl0 hf cG hne hgr hrl aY aZ ho
 unfold sv at aH |-
 obtain ⟨n,hn⟩:=eX (l.length)
 unfold Nn at aG
 rw [hn] at aG cF cH |-
 have HN:=Qq hn
 clear hn
 have dN:(0:Int)<=(i:Int):=C7
 have dO:(i:Int)<(n:Int):=C7
 have dP:decide ((i:Int)<0)=false:=Ca
 go_enter func25,ntmps25
 go_wp2_with fail
 obtain ⟨W1,aJ⟩:=eX (w.alloc (.cells (Cn x x3 aS x4 aT) 36))
 have bC:=eqB aJ (Zg _ _)
 have bX:=eqH (b:=w.heap.size) aJ (Qw _ _)
 have aF:=Qq bC;have bU:=Qq bX
 rw [aJ]
 have cC:=aG.out W1 bC
 clear aJ bC bX
 refine cC.mono ?_
 rintro e w2 ⟨p,cap,rvs,rfl,I,cA⟩
 obtain ⟨g,dE,hv,dL,dM⟩:=I.row.form (by rw [HN.out];omega)
 simp only [Qr] at hv
 obtain ⟨rfl,-,rfl⟩:=hv
 obtain ⟨bH,aB⟩:∃ bH,rvs[i]?=some bH:=⟨_,Qx (by rw [I.len,HN.out];exact cF)⟩
 obtain ⟨css,A⟩:=I.rows i o bH HO.out aB
 obtain ⟨aD,aC,rfl⟩:=A.form
 obtain ⟨bR,bJ,G⟩:=Qjq I cA aB
 have bO:=Qq (aH.out _ w2 (I.sl (by rw [HN.out];omega) (fun r hr=>by have:=bQ.out r hr;omega) _ (fun _ _=>trivial) (fun _ _ _=>trivial)))
 clear I cA A aB cC aG aH
 go_wp2_with fail
 refine bO.out.mono ?_
 rintro e w3 ⟨rfl,aN⟩
 have U:=bR.out.below aN
 have aL:=kB aN (kE bJ.out (Z8 bU.out) bU.out)
 obtain ⟨aI,D,-,J⟩:=U.at HO.out G.out
 have c1:=Qk _ _ (i*2+1) _ _ _ D
 rw [J] at c1
 obtain ⟨css,A⟩:=U.rows i o _ HO.out G.out
 have aU:=Qq (aF.out.trans ((bJ.out.thn aN).mono aF.out.size))
 have cQ:=Qq (HB.out _ w3 aU.out (A.sl C7 (fun _ _=>trivial) (fun _ _ _=>trivial)) (fun j u hu=>by rw [Qk _ _ j _ _ _ aL];simpa using hu) (Z8 aL))
 have bS:=Qq U;have cW:=Qq aL
 clear U aL D J A aN aI HB
 go_wp2_with fail
 refine cQ.out.mono ?_
 rintro e w4 ⟨rfl,aO⟩
 have V:=bS.out.below aO
 have aM:=kB aO cW.out
 obtain ⟨aI,D,-,J⟩:=V.at HO.out G.out
 have c4:=Qk _ _ (i*2+1) _ _ _ D
 rw [J] at c4
 obtain ⟨css,A⟩:=V.rows i o _ HO.out G.out
 have aV:=Qq (aU.out.thn aO)
 have cU:=Qq (HI.out _ w4 aV.out (A.sl C7 (fun _ _=>trivial) (fun _ _ _=>trivial)) (fun j u hu=>by rw [Qk _ _ j _ _ _ aM];simpa using hu) (Z8 aM))
 have bT:=Qq V;have cX:=Qq aM
 clear V aM D J A aO aI HI c1
 go_wp2_with fail
 refine cU.out.mono ?_
 rintro e w5 ⟨rfl,aP⟩
 have N:=bT.out.below aP
 have O:=kB aP cX.out
 obtain ⟨aI,D,-,J⟩:=N.at HO.out G.out
 have c5:=Qk _ _ (i*2+1) _ _ _ D
 rw [J] at c5
 have x0:=rA0 O;have x1:=rA1 O;have x2:=rA2 O;have dR:=rA3 O;have dS:=rA4 O
 obtain ⟨css,A⟩:=N.rows i o _ HO.out G.out
 have aW:=Qq (aV.out.thn aP)
 have cE:=Z8 D
 have dJ:=Z8 O
 have cI:g≠w5.heap.size:=C7
 have dF:w.heap.size≠w5.heap.size:=C7
 have cJ:some g≠(Value.slice aD o.rows.length aC).ownBlock:=fun e=>Yh N.row A.row Cc rfl e.symm
 obtain ⟨M,T,bL,cR⟩:=Qjz N A D J
 have cL:Z9 (But (Nx (.slice (some ⟨g,0,none⟩) n cap) rvs) (.slice aD o.rows.length aC)) w5 (Cn x x3 aS x4 aT) x:=by
  refine HX.out.move (.of_below aW.out) (fun b _ hb=>?_)
  have dK:b<w.heap.size:=hb
  have dH:=aF.out.size
  refine ⟨⟨fun e=>?_,fun u hu e=>?_⟩,fun e=>?_⟩
  ·have:g=b:=Qb e
   omega
  ·obtain ⟨j,hj⟩:=Zk hu
   obtain ⟨y,hy⟩:∃ y,l[j]?=some y:=⟨_,Qx (by rw [<- M.out.len];exact (Qj hj).1)⟩
   obtain ⟨_,bF⟩:=M.out.rows j y u hy hj
   have:=(bF.row.lt b e).1
   omega
  have:=(T.out.row.lt b e.symm).1
  omega
 have cY:=Qq cL
 clear N O D J A aP cL c4
 obtain ⟨W8,aK⟩:=eX ((w5.alloc (.cells (Cn x x3 aS x4 aT) 36)).drew)
 have Y:Below w5 w5 W8:=by rw [<- aK];exact (Zg _ _).drew
 have bB:W8.heap[w5.heap.size]?=some (.cells (Cn x x3 aS x4 aT) 36 (0,0)):=by rw [<- aK,heap_drew];exact Qw _ _
 have bA:W8=w5.heap.size+1:=by rw [<- aK];simp
 have bY:Sl Zd (But (Nx (.slice (some ⟨g,0,none⟩) n cap) rvs) (.slice aD o.rows.length aC)) W8 (.slice (some ⟨w5,0,none⟩) 1 1) [x]:=by
  refine ⟨_,1,rfl,Ca,fun _=>⟨w5.heap.size,0,rfl,?_,Z8 bB,fun j u hj=>?_⟩⟩
  ·refine ⟨⟨fun e=>?_,fun u hu e=>?_⟩,fun e=>?_⟩
   ·exact cI (Qb e)
   ·obtain ⟨j,hj⟩:=Zk hu
    obtain ⟨y,hy⟩:∃ y,l[j]?=some y:=⟨_,Qx (by rw [<- M.out.len];exact (Qj hj).1)⟩
    obtain ⟨_,bF⟩:=M.out.rows j y u hy hj
    have:=(bF.row.lt _ e).2
    omega
   have:=(T.out.row.lt _ e.symm).2
   omega
  have h0:=(Qj hj).1
  simp at h0
  subst h0
  simp at hj
  subst hj
  refine ⟨_,fun j u hu=>?_,cY.out.move (.of_below Y) Qje⟩
  rw [Nat.zero_mul,Nat.zero_add,Qk _ _ j _ _ _ bB]
  simpa using hu
 have bN:=Qq (insEnd _ W1 W8 (.slice aD o.rows.length aC) o.rows css x (some ⟨w5,0,none⟩) 1 (T.out.below Y) bY C7 C7)
 have cS:=Qq (fun (w6:World) (hg:W8.grownBy w6 (Value.slice aD o.rows.length aC).ownBlock)=>(hg.block g C7 cJ).trans ((Y.block g cE).trans bL.out))
 have c8:=kD Y cE c5
 have bK:=Qq Y;have dD:=Qq bA
 have dG:=Qq aK
 clear bY bB Y bA
 go_wp2_with fail
 go_region_with (first | (go_at_call 83;refine bN.out.mono ?_;rintro e w6 ⟨p6,c6,bV,rfl,Z,bE,bZ⟩;have bD:=cS.out w6 bE;have f6:=Qn _ _ (i*2+1) _ _ bD;have k6:=Qk _ _ (i*2+1) _ _ _ bD;rw [cR.out] at k6;obtain ⟨cV,bM,cO⟩:=Qjq Z bE bZ;clear bD Z bE bZ))
 all_goals
  go_wp2_with fail
  go_ret
  have Z:=cV.out;have bW:=cO.out
  simp only [Ql,List.length_cons,List.length_nil,Nat.zero_add] at Z bW
  have hP:=(M.out.below bK.out).put' HN.out HO.out G.out ⟨bV,Z⟩ bM.out (by
   rcases bW with h | h
   ·exact .inl h
   exact .inr fun g' e=>by rw [h] at e;exact Nat.le_of_eq (Qb e))
  have aA:(l.set i ⟨o.table,o.rows++[x]⟩).length=n:=by rw [List.length_set];exact HN.out
  have dB:∀ r ∈ l.set i ⟨o.table,o.rows++[x]⟩,r.rows.length<=1000000:=by
   intro r hr
   rcases List.mem_or_eq_of_mem_set hr with h | rfl
   ·have:=bQ.out r h;omega
   simp;omega
  refine ⟨some ⟨g,0,none⟩,cap,by rw [aA];rfl,by rw [aA];exact hP.sl (by rw [aA];exact cH) dB _ (fun _ _=>trivial) (fun _ _ _=>trivial),?_⟩
  have cB:=aW.out.thn bK.out
  have dI:=aF.out.size
  refine (cB.grown bM.out cB.size (fun b hb=>?_)).setCell (p:=⟨g,i*2+1,none⟩) (by show w<=g;omega) _
  have:=(T.out.row.lt b hb).1
  omega
end Go.Proofs.YtcljcblceodciaaGreatDoor
