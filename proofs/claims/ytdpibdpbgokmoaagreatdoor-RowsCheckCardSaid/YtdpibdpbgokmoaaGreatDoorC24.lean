import Derived.Test.YtdpibdpbgokmoaaGreatDoorC20
import Derived.Test.YtdpibdpbgokmoaaGreatDoorC17
set_option maxRecDepth 100000
set_option maxHeartbeats 400000000
namespace Go.Proofs.YtdpibdpbgokmoaaGreatDoor
open Go.RowKit Go.Shelf Go.Lib Tryz
theorem Own.set5 {E:TypeId} {S:Nat→Prop} {B:Nat} {w:World} {g n cap:Nat} {xs:List Val} {css:List (List Value)} (hn:xs.length=n) (h:Own Ze E S B w (.slice (some ⟨g,0,none⟩) n cap) xs css) {i:Nat} (hi:i<n) {a b c d e:Value} {x:Val} (hx:Z9 (But S (.slice (some ⟨g,0,none⟩) n cap)) w [a,b,c,d,e] x):
  Own Ze E S B (((((w.setCell ⟨g,i*5,none⟩ a).setCell ⟨g,i*5+1,none⟩ b).setCell ⟨g,i*5+2,none⟩ c).setCell ⟨g,i*5+3,none⟩ d).setCell ⟨g,i*5+4,none⟩ e) (.slice (some ⟨g,0,none⟩) n cap) (xs.set i x) (css.set i [a,b,c,d,e]):=by
 subst hn
 have J:=h.cs.len
 have hA:∀ A,A≠g→(((((w.setCell ⟨g,i*5,none⟩ a).setCell ⟨g,i*5+1,none⟩ b).setCell ⟨g,i*5+2,none⟩ c).setCell ⟨g,i*5+3,none⟩ d).setCell ⟨g,i*5+4,none⟩ e).heap[A]?=w.heap[A]?:=fun A hb=>Xo hb
 refine ⟨by rw [List.length_set];exact store5 h.row J h.cs.all i hi a b c d e,⟨by rw [List.length_set,List.length_set];exact J,fun j cs y D G=>?_⟩⟩
 by_cases hj:j=i
 ·subst hj
  rw [List.getElem?_set_self (by rw [J];exact hi)] at D
  rw [List.getElem?_set_self hi] at G
  cases D;cases G
  exact hx.move (fun A I _=>hA A (fun e=>I.2 (by rw [e];rfl))) Qzx
 rw [List.getElem?_set_ne (Ne.symm hj)] at D G
 exact Z9.move (h.cs.R j cs y D G) (fun A I _=>hA A (fun e=>I.2 (by rw [e];rfl))) Qzx
theorem Rk {v:Val} {x:Bs} (y:Val) (h:Ys v x=none):Dz v x y=none:=by
 unfold Ys at h
 unfold Dz
 split at h
 ·rename_i h4
  rw [if_pos h4]
  cases hn:V9 v.names x with
  | none=>rfl
  | some i=>
   rw [hn] at h
   rw [List.getElem?_eq_none_iff] at h
   show (if i<v.kids.length then _ else none)=none
   rw [if_neg Qqj]
 rename_i h4
 rw [if_neg h4]
theorem Po {v u:Val} {x:Bs} (y:Val) {i:Nat} (h:Ys v x=some u) (hi:Uq v x=i):Dz v x y=some (.mk v.kind v.n v.s v.names (v.kids.set i y)):=by
 obtain ⟨j,hj,hu,hb⟩:=Dm h
 have e:j=i:=by
  unfold Uq at hi
  rw [hb,hj,if_pos rfl] at hi
  omega
 subst e
 unfold Ys at h
 unfold Dz
 split at h
 ·rename_i h4
  rw [if_pos h4]
  cases hn:V9 v.names x with
  | none=>rw [hn] at h;cases h
  | some i=>
   have hi:X5 v x=i:=by
    unfold V9 at hn
    unfold X5 V5
    rw [hn]
   rw [hj] at hi
   obtain rfl:j=i:=Qqj
   show (if j<v.kids.length then _ else none)=_
   rw [if_pos (Qj hu).1]
 cases h
theorem Pi {u v y:Val} {x:Bs} (h:Dz u x y=some v):v.kind=4:=by
 unfold Dz at h
 split at h
 ·rename_i h4
  split at h
  ·split at h
   ·cases h;exact h4
   cases h
  cases h
 cases h
theorem Cb (S:Nat→Prop) (v x:Val) (name:Bs) (cv cx:List Value) (w:World) (hv0:Z9 S w cv v) (hx0:Z9 S w cx x) (hbv:Y3 v) (hbx:Y3 x):
  Calls prog 171 #[cv,sv name,cx] w (X6 S w (Dz v name x)):=by
 have hv:Z9 (fun b=>S b∧b<w) w cv v:=hv0.move (.refl _ _) (fun b hb h=>⟨h,hb⟩)
 have hx:Z9 (fun b=>S b∧b<w) w cx x:=hx0.move (.refl _ _) (fun b hb h=>⟨h,hb⟩)
 clear hv0 hx0
 have HF:=Qq (fun W (hb:Below w w W)=>Et _ v cv name W (hv.move (.of_below hb) Qzx))
 obtain ⟨p3,k3,p4,k4,bC,bF,aC,cN⟩:=Z9.cells hv
 obtain ⟨q3,l3,q4,l4,bD,_⟩:=Z9.cells hx
 have cB:=Qq hx
 simp only [vcs] at bC bD
 subst bC;subst bD
 have hl:v.kids.length≤1000000:=by obtain ⟨_,_,_,h⟩:=aC.len;exact h
 obtain ⟨bS,aN,aK,bM⟩:=Qqp bF aC hbv hbx
 obtain ⟨i0,j1,j2,j3,j4⟩:=Y9 (P:=prog) (t:=36) (z:=.agg zV) (n:=5) (b:=80) Qqy
 obtain ⟨HJ,bN,bO,bP⟩:=Qqp j1 j2 j3 j4
 clear j1 j2 j3 j4
 clear hv hx bF aC hbv hbx
 unfold sv at HF ⊢
 cases hg:Ys v name with
 | none=>
  rw [Fl hg] at HF
  have Z:=Qq (Rk x hg)
  clear hg
  go_enter func171,ntmps171
  go_wp2_with fail
  refine (HF.out _ (Xm _ _ _ _)).mono ?_
  rintro e w1 ⟨rfl,V⟩
  have Y:=(V.block (w+2) Qqk).trans (Zi _ _ _ _)
  have HW:=Qq V;have HR:=Qq Y
  obtain ⟨y0,y1,y2,y3,y4⟩:=row5 Y
  obtain ⟨f0,f1,f2,f3,f4⟩:=frz5 Y
  clear V Y
  go_wp2_with fail
  show bodyPost _ _ _ _ _ (Zl w1 (w+2) Qqd Qqd Qqe Qqf Qqf)
  exact Q7 (v:=.tuple #[.agg zV,.bool false]) (by simp [results,results171,go_sem,Zd HR.out]) rfl ⟨0,0,⟨#[]⟩,none,0,0,none,0,0,false,rfl,.no Z.out,Zc ((Xm w _ _ _).thn HW.out) Qqj⟩
 | some u=>
  obtain ⟨i,hi,aB⟩:=Fr hg
  have Z:=Qq (Po x hg hi)
  rw [hi] at HF
  obtain ⟨n,hn⟩:=eX (v.kids.length)
  have cM:i<n:=by rw [← hn];exact (Qj aB).1
  rw [hn] at HF aN hl ⊢
  have HN:=Qq hn
  have cX:(0:Int)≤(i:Int):=Qqj
  have cY:(i:Int)<(n:Int):=Qqj
  have cZ:decide ((i:Int)<0)=false:=Qqk
  have bQ:=Qq aB;have cU:=Qq hg
  clear hg hi aB hn
  go_enter func171,ntmps171
  go_wp2_with fail
  refine (HF.out _ (Xm _ _ _ _)).mono ?_
  rintro e w1 ⟨rfl,V⟩
  have hX:=(V.block w (by simp;omega)).trans (Zp _ _ _ _)
  have hY:=(V.block (w+1) Qqk).trans (Zo _ _ _ _)
  have Y:=(V.block (w+1+1) Qqk).trans (Zi _ _ _ _)
  have M:=(Xm w _ _ _).thn V
  obtain ⟨HX,HY,HR,aL⟩:=Qqp hX hY Y M
  have cS:w.heap.size+1+1<w1.heap.size:=Z8 Y
  have c4:=rA4 hX
  have hA:Sl Ze (But (fun b=>S b∧b<w) (.slice none 0 0)) w1 (.slice p4 n k4) v.kids:=(aN.out.mono (S':=But (fun b=>S b∧b<w) (.slice none 0 0)) (fun b _ h=>⟨h,fun e=>by cases e⟩)).below M
  have HA:=Qq hA
  have bE:([]:List Val).length+v.kids.length=n:=by rw [HN.out];simp
  have bR:=Qq bE
  clear V hX hY Y M hA bE
  go_upto_region 6 with (at_builtin;refine Xj (r:=Ze) Qqx Xw rfl (.tmp 16) (.tmp 18) _ rfl 36 i0 (.agg zV) 80 underlying34 HJ.out bN.out bO.out bP.out rfl Qqj (fun b=>S b∧b<w) (w+3) w1 (.slice none 0 0) [] [] rfl (Own.nil _ _ _ _ _) (.slice p4 n k4) v.kids rfl HA.out n bR.out Qqj Qqj ?_;intro pa O cR wa aT aQ;have D:=Qq aT;have G:=Qq aQ;clear aT aQ)
  rw [List.nil_append] at D
  obtain ⟨g,cQ,bG,cV,cW⟩:=D.out.row.form (by rw [HN.out];omega)
  simp only [Qr] at bG
  obtain ⟨rfl,-,rfl⟩:=bG
  have aX:=kE G.out.below Qqj HX.out
  have aZ:=kE G.out.below Qqj HY.out
  have aU:=kE G.out.below Qqj HR.out
  have N:Below w w wa:=aL.out.trans (G.out.below.mono Qqj)
  have aW:Z9 (But (fun b=>S b∧b<w) (.slice (some ⟨g,0,none⟩) n O)) wa (Qqg x q3 l3 q4 l4) x:=Z9.move cB.out (.of_below N) (fun b hb h=>⟨h,fun e=>by have:=(D.out.row.lt b e.symm).1;omega⟩)
  have aR:=D.out.set5 HN.out cM aW
  obtain ⟨bq,oq,t3,s3,t4,s4,he,_,_,d0,d1,d2,d3,d4⟩:=(show Sl Ze (fun _=>True) wa (.slice (some ⟨g,0,none⟩) n O) v.kids by have:=D.out.sl (S':=fun _=>True) (by rw [HN.out];omega) (fun _ _=>trivial) (fun _ _ _=>trivial);exact this).val bQ.out
  obtain ⟨rfl,rfl⟩:g=bq∧0=oq:=by simpa using he
  simp only [Nat.zero_add] at d0 d1 d2 d3 d4
  have A:=D.out.row
  rw [HN.out] at A
  have f0:=A.frozenAt (i*5);have f1:=A.frozenAt (i*5+1);have f2:=A.frozenAt (i*5+2);have f3:=A.frozenAt (i*5+3);have f4:=A.frozenAt (i*5+4)
  clear A
  obtain ⟨y0,y1,y2,y3,y4⟩:=row5 aZ
  obtain ⟨bT,bZ,bW,aM⟩:=Qqp aR aX aU N
  have cT:=G.out.size
  clear he aR aX aZ aU N aW c4
  go_upto_region 7 with fail
  obtain ⟨W6,I⟩:=eX ((((((wa.setCell ⟨g,i*5,none⟩ (.int .i64 x.kind)).setCell ⟨g,i*5+1,none⟩ (.int .i64 x.n)).setCell ⟨g,i*5+2,none⟩ (.string ⟨x.s.toArray⟩)).setCell ⟨g,i*5+3,none⟩ (.slice q3 x.names.length l3)).setCell ⟨g,i*5+4,none⟩ (.slice q4 x.kids.length l4)))
  have aD:∀ b,b≠g→W6.heap[b]?=wa.heap[b]?:=fun b hb=>by rw [← I];exact Xo hb
  have dA:W6.heap.size=wa.heap.size:=by rw [← I];simp [World.setCell]
  have aA:=bT.out
  rw [I] at aA ⊢
  have U:=(aD w Qqj).trans bZ.out
  have aV:=(aD (w+1+1) Qqj).trans bW.out
  have bA:Below w w W6:=by
   rw [← I]
   exact ((((aM.out.setCell (p:=⟨g,i*5,none⟩) (by show w≤g;omega) _).setCell (p:=⟨g,i*5+1,none⟩) (by show w≤g;omega) _).setCell (p:=⟨g,i*5+2,none⟩) (by show w≤g;omega) _).setCell (p:=⟨g,i*5+3,none⟩) (by show w≤g;omega) _).setCell (p:=⟨g,i*5+4,none⟩) (by show w≤g;omega) _
  obtain ⟨aO,cA,bX,bL⟩:=Qqp aA U aV bA
  obtain ⟨c0,c1,c2,c3,c4⟩:=row5 U
  have cH:=fA 4 U
  clear I aD aA U aV bA d0 d1 d2 d3 d4 f0 f1 f2 f3 f4 y0 y1 y2 y3 y4
  go_upto_region 8 with fail
  obtain ⟨W7,J⟩:=eX (W6.setCell ⟨w,4,none⟩ (.slice (some ⟨g,0,none⟩) n O))
  rw [J]
  have aY:W7.heap[w.heap.size]?=some (.cells #[v.kind,v.n,v.s,.slice p3 v.names.length k3,Qqb g 0 n O] 36 (0,0)):=by rw [← J,Qi _ _ _ _ _ _ cA.out];rfl
  have aE:∀ b,b≠w.heap.size→W7.heap[b]?=W6.heap[b]?:=fun b hb=>by rw [← J];exact Za hb
  have T:=(aE (w+1+1) Qqj).trans bX.out
  have bB:Below w w W7:=by rw [← J];exact bL.out.setCell (p:=⟨w,4,none⟩) (Q9 _) _
  have aS:Own Ze 36 (fun b=>S b∧b<w) (w+3) W7 (.slice (some ⟨g,0,none⟩) n O) (v.kids.set i x) _:=aO.out.move (Q9 _) (fun b _ h=>aE b (by
   rcases h with h | h
   ·have:=h.2;omega
   have:=(aO.out.row.lt b h).1;omega))
  obtain ⟨bY,aJ,bU⟩:=Qqo T bB aS
  clear c0 c1 c2 c3 c4 cH
  obtain ⟨e0,e1,e2,e3,e4⟩:=row5 aY
  obtain ⟨r0,r1,r2,r3,r4⟩:=row5 T
  obtain ⟨f0,f1,f2,f3,f4⟩:=frz5 T
  clear J aY aE T bB aS
  go_wp2_with fail
  show bodyPost _ _ _ _ _ (Zl W7 (w+1+1) v.kind v.n v.s (.slice p3 v.names.length k3) (Qqb g 0 n O))
  refine Q7 (v:=.tuple #[.agg #[v.kind,v.n,v.s,.slice p3 v.names.length k3,Qqb g 0 n O],.bool true]) (by simp [results,results171,go_sem,Zd bY.out]) rfl ⟨v.kind,v.n,⟨v.s.toArray⟩,p3,v.names.length,k3,some ⟨g,0,none⟩,n,O,true,rfl,.yes (v:=.mk v.kind v.n v.s v.names (v.kids.set i x)) ?_ ?_ Z.out,Zc aJ.out Qqj⟩
  ·have cL:(v.kids.set i x).length=n:=by rw [List.length_set,HN.out]
   have cK:Sl Ze (fun b=>(S b∧b<w)∨w+3≤b) W7 (.slice (some ⟨g,0,none⟩) n O) (v.kids.set i x):=bU.out.sl (by rw [cL];omega) (fun b hb=>.inr hb) (fun b _ h=>.inl h)
   refine Y8 cN ?_ ?_
   ·exact ((bS.out.below aJ.out).frame (fun b hb _=>Zf (by have:=hb.2;omega))).mono (fun b _ hb=>.inl hb.1)
   refine (cK.frame (fun b hb _=>Zf Qqj)).mono (fun b _ hb=>?_)
   rcases hb with h | h
   ·exact .inl h.1
   exact .inr Qqj
  refine .mk _ _ _ _ _ (fun h=>aK.out.bool h) (fun y hy=>?_)
  rcases List.mem_or_eq_of_mem_set hy with h | h
  ·exact aK.out.kids y h
  rw [h];exact bM.out
def Jw (A:List Bs × List Val) (p:Bs × Val):List Bs × List Val:=(Xg A.1 (below A.1 p.1) p.1,Xg A.2 (below A.1 p.1) p.2)
def Yt (z:List (Bs × Val)):List Bs × List Val:=z.foldl Jw ([],[])
theorem M6 (z:List (Bs × Val)) (p:Bs × Val):Yt (z++[p])=Jw (Yt z) p:=by unfold Yt;rw [List.foldl_append];rfl
theorem Ch {T:Type} (l:List T) (i:Nat) (x:T):(Xg l i x).length=l.length+1:=by unfold Xg;simp;omega
theorem U4 (z:List (Bs × Val)):(Yt z).1.length=z.length∧(Yt z).2.length=z.length:=by
 have:∀ (z:List (Bs × Val)) (A:List Bs × List Val),(z.foldl Jw A).1.length=A.1.length+z.length∧(z.foldl Jw A).2.length=A.2.length+z.length:=by
  intro z
  induction z with
  | nil=>intro A;exact ⟨rfl,rfl⟩
  | cons p z ih=>
   intro A
   obtain ⟨h1,h2⟩:=ih (Jw A p)
   rw [List.foldl_cons,h1,h2]
   unfold Jw
   simp only [Ch,List.length_cons]
   omega
 have:=this z ([],[])
 simpa [Yt] using this
def RecIs (S:Nat→Prop) (w:World) (names:List Bs) (vals:List Val) (e:Ending) (w':World):Prop:=Below w w w' ∧
 ((∃ err:Int,err≠0∧e=.returned (.tuple #[.agg zV,err])∧¬ (names.length=vals.length∧∀ (i j:Nat) (x:Bs),i<j→names[i]?=some x→names[j]?=some x→False)) ∨
  (∃ p3 k3 p4 k4,names.length=vals.length∧e=.returned (.tuple #[.agg (vcs (V8 (Yt (names.zip vals)).1 (Yt (names.zip vals)).2) p3 k3 p4 k4).toArray,Qqd])∧names.length≤k3∧names.length≤k4 ∧
   Z9 (fun b=>S b∨w≤b) w' (vcs (V8 (Yt (names.zip vals)).1 (Yt (names.zip vals)).2) p3 k3 p4 k4) (V8 (Yt (names.zip vals)).1 (Yt (names.zip vals)).2)))
def Js (S:Nat→Prop) (w:World) (z:List (Bs × Val)) (wx:World):Prop:=Below w w wx∧∃ p3 k3 p4 k4,z.length≤k3∧z.length≤k4 ∧
 wx.heap[w.heap.size+1]?=some (.cells #[.int .i64 4,Qqd,Qqe,.slice p3 z.length k3,.slice p4 z.length k4] 36 (0,0))∧Z9 (fun b=>(S b∧b<w)∨w+2≤b) wx (vcs (V8 (Yt z).1 (Yt z).2) p3 k3 p4 k4) (V8 (Yt z).1 (Yt z).2) ∧
 wx.heap[w.heap.size]?=some (.cells zV 36 (0,0))
theorem E6 (z:List (Bs × Val)) (p3:Option Addr) (k3:Nat) (p4:Option Addr) (k4:Nat):vcs (V8 (Yt z).1 (Yt z).2) p3 k3 p4 k4=[.int .i64 4,.int .i64 0,.string ⟨#[]⟩,.slice p3 z.length k3,.slice p4 z.length k4]:=by
 obtain ⟨h1,h2⟩:=U4 z
 unfold V8
 rw [vcs_mk,h1,h2]
theorem Js.below {S:Nat→Prop} {w wr wx:World} {z:List (Bs × Val)} (h:Js S w z wr) (hb:Below wr wr wx):Js S w z wx:=by
 obtain ⟨h1,p3,k3,p4,k4,h2,h3,h4,h5,h6⟩:=h
 exact ⟨h1.thn hb,p3,k3,p4,k4,h2,h3,kB hb h4,h5.move (.of_below hb) Qzx,kB hb h6⟩
theorem Js.next {S:Nat→Prop} {w wr w2:World} {z:List (Bs × Val)} {name:Bs} {x:Val} {p3:Option Addr} {k3:Nat} {p4:Option Addr} {k4:Nat} (h:Js S w z wr) (hb:Below wr wr w2) (h3:(L0 (V8 (Yt z).1 (Yt z).2) name x).names.length≤k3) (h4:(L0 (V8 (Yt z).1 (Yt z).2) name x).kids.length≤k4)
  (hv:Z9 (fun b=>((fun b=>(S b∧b<w)∨w+2≤b)) b∨wr≤b) w2 (vcs (L0 (V8 (Yt z).1 (Yt z).2) name x) p3 k3 p4 k4) (L0 (V8 (Yt z).1 (Yt z).2) name x)):
  vcs (L0 (V8 (Yt z).1 (Yt z).2) name x) p3 k3 p4 k4=[.int .i64 4,.int .i64 0,.string ⟨#[]⟩,.slice p3 (z.length+1) k3,.slice p4 (z.length+1) k4] ∧
  Js S w (z++[(name,x)]) (Zl w2 (w+1) (.int .i64 4) Qqd Qqe (.slice p3 (z.length+1) k3) (.slice p4 (z.length+1) k4)):=by
 have hu:L0 (V8 (Yt z).1 (Yt z).2) name x=V8 (Yt (z++[(name,x)])).1 (Yt (z++[(name,x)])).2:=by rw [M6];rfl
 rw [hu] at h3 h4 hv ⊢
 have hc:=E6 (z++[(name,x)]) p3 k3 p4 k4
 obtain ⟨M,N⟩:=U4 (z++[(name,x)])
 have A:(z++[(name,x)]).length=z.length+1:=Qqk
 refine ⟨by rw [hc,A],?_⟩
 obtain ⟨I,U,O,V,T,_,_,h7,_,h9⟩:=h
 have J:w.heap.size+1<wr.heap.size:=Z8 h7
 have D:=kE hb J h7
 have G:=kB hb h9
 refine ⟨Zc (I.thn hb) Qqj,p3,k3,p4,k4,by rw [A];have:(Yt (z++[(name,x)])).1.length≤k3:=h3;omega,by rw [A];have:(Yt (z++[(name,x)])).2.length≤k4:=h4;omega,by rw [A];exact Yd D,?_,by rw [Zf Qqj];exact G⟩
 refine (hv.move (S':=(fun b=>(S b∧b<w)∨w+2≤b)) (.refl _ _) (fun b _ h=>?_)).move (fun b hS _=>Zf ?_) (fun b _ h=>h)
 ·rcases h with h | h
  ·exact h
  exact .inr Qqj
 rcases hS with h | h <;> omega
theorem Bb (S:Nat→Prop) (nv vv:Value) (names:List Bs) (vals:List Val) (w:World) (hn0:Sl Zh S w nv names) (hv0:Sl Ze S w vv vals) (hw:∀ x ∈ names,Va x) (hl:names.length≤1000):
  Calls prog 69 #[nv,vv] w (RecIs S w names vals):=by
 have hn:=hn0.up
 have hv:=hv0.up
 obtain ⟨np,nc,rfl,_⟩:=hn.len
 obtain ⟨vp,vc,rfl,dB⟩:=hv.len
 obtain ⟨aG,aV,HW⟩:=Qqo hn hv hw
 clear hn0 hv0 hn hv hw
 by_cases hlen:names.length=vals.length
 ·obtain ⟨n,aL⟩:=eX (names.length)
  have hm:vals.length=n:=Qqj
  obtain ⟨HN,HM,J⟩:=Qqo aL hm hlen
  rw [aL] at aG hl ⊢
  rw [hm] at aV dB ⊢
  have hq:((n:Int) != (n:Int))=false:=Qqk
  clear aL hm hlen
  go_enter func69,ntmps69
  go_wp2_with fail
  generalize V:(w.alloc _).alloc _=W1
  have bD:Js S w ((names.zip vals).take 0) W1:=by
   refine ⟨by rw [← V];exact Zt _ _ _,none,0,none,0,Q9 _,Q9 _,by rw [← V];exact Q6 _ _ _,?_,by rw [← V];exact Q5 _ _ _⟩
   exact Y8 (s:=[]) Qqk (Sl.nil _ _ _) (Sl.nil _ _ _)
  have bY:=Qq bD
  clear V bD hq
  go_loopw [7,8] (fun i _ wr=>∃ k:Nat,k≤n∧i=.int .i64 k∧Aside (Js S w ((names.zip vals).take k) wr)∧Aside (∀ (i j:Nat) (x:Bs),j<k→i<j→names[i]?=some x→names[j]?=some x→False)) (fun i _ _=>n - (intOf i).toNat)
  case atStart=>exact ⟨0,Q8 _,rfl,bY.out,fun i j x hj=>absurd hj (Z6 _)⟩
  obtain ⟨k,hk,rfl,hM,hD⟩:=hrel
  have bC:Js S w ((names.zip vals).take k) wr:=hM
  have cB:=Qq bC
  obtain ⟨bE,p3,k3,p4,k4,h3,h4,hX,bN,hZ⟩:=bC
  have aM:((names.zip vals).take k).length=k:=by rw [Qm,List.length_zip,HN.out,HM.out];omega
  rw [aM] at h3 h4 hX
  obtain ⟨HB,HX,aH,HZ,M,HD⟩:=Qqs bE hX bN hZ aM (show ∀ (i j:Nat) (x:Bs),j<k→i<j→names[i]?=some x→names[j]?=some x→False from hD)
  have cQ:=Z8 hX
  clear hM hD bE hX bN hZ aM
  by_cases hlt:k<n
  ·have dK:(0:Int)≤(k:Int):=Qqj
   have dL:(k:Int)<(n:Int):=Qqj
   obtain ⟨nm,Z⟩:∃ y,names[k]?=some y:=⟨_,Qx (by rw [HN.out];exact hlt)⟩
   obtain ⟨x,hx⟩:∃ y,vals[k]?=some y:=⟨_,Qx (by rw [HM.out];exact hlt)⟩
   obtain ⟨nb,bP,rfl,O,bL⟩:=(aG.out.below HB.out).str Z
   obtain ⟨vb,dH,q3,l3,q4,l4,rfl,U,bO,d0,d1,d2,d3,d4⟩:=(aV.out.below HB.out).val hx
   have cZ:=Qv _ _ O
   have HF:=Qq (fun W=>Ha nm (HW.out nm (Qy Z)) W)
   unfold sv at HF
   obtain ⟨aF,cD,cC⟩:=Qqo Z hx bO
   clear Z hx bO
   go_wp2_with (go_at_call 107;refine (HF.out _).mono ?_;rintro e w5 ⟨rfl,aK⟩;have bV:=Qq aK;have T:=kD aK cZ O;clear aK)
   obtain ⟨W5,rfl⟩:∃ W5:World,W5=w5:=⟨_,rfl⟩
   have bK:nb<W5.heap.size:=Qv _ _ T
   have aU:=Qq T;have bW:=Qq (Qe d0 (Qe d1 (Qe d2 (Qe d3 d4))))
   clear O T d0 d1 d2 d3 d4
   go_loopw [8] (fun i dG=>∃ j:Nat,j≤k∧i=.int .i64 j∧Aside (∀ (i:Nat) (y:Bs),i<j→names[i]?=some y→(y==nm)=false)∧Aside (Below W5 W5 dG)) (fun i _=>k - (intOf i).toNat)
   case atStart=>exact ⟨0,Q8 _,rfl,fun i y hi=>absurd hi (Z6 _),Qz _ _⟩
   obtain ⟨j,hj,rfl,A,bB⟩:=hrel
   have aD:=Qq (show Below W5 W5 wr from bB)
   have G:=Qq (bV.out.thn aD.out)
   clear bB
   have O:=kD aD.out bK aU.out
   by_cases hlt2:j<k
   ·have dN:(0:Int)≤(j:Int):=Qqj
    have cS:(j:Int)<(n:Int):=Qqj
    have cT:(j:Int)<(k:Int):=Qqj
    obtain ⟨y,hy⟩:∃ y,names[j]?=some y:=⟨_,Qx (by rw [HN.out];omega)⟩
    obtain ⟨dF,aN,he,dE,-⟩:=(aG.out.below (HB.out.thn G.out)).str hy
    obtain ⟨rfl,rfl,-⟩:nb=dF∧bP=aN∧True:=by simpa using he
    have HY:=Qq hy
    clear hy he
    by_cases heq:y=nm
    ·have hq:(y==nm)=true:=by rw [heq];simp
     have bX:=Qq heq
     have aJ:=kB G.out HZ.out
     have dJ:=Qq aJ
     clear heq
     go_upto_region 12 with fail
     go_quiet (fail)
     clear hq dE O
     have Y:(wr.drewN nq).heap[w.heap.size]?=some (.cells zV 36 (0,0)):=aJ
     have cE:=Qq Y
     obtain ⟨z0,z1,z2,z3,z4⟩:=row5 Y
     obtain ⟨f0,f1,f2,f3,f4⟩:=frz5 Y
     clear aJ Y
     go_wp2_with fail
     show bodyPost _ _ _ _ _ (Zl (wr.drewN nq) w Qqd Qqd Qqe Qqf Qqf)
     refine Q7 (v:=.tuple #[.agg zV,.int .i64 8]) (by simp [results,results69,go_sem,Zd cE.out]) rfl ⟨Zc ((HB.out.thn G.out).thn (Yq _ _)) (Q9 _),.inl ⟨8,Qqx,rfl,fun h=>h.2 j k nm Qqj (by rw [← bX.out];exact HY.out) aF.out⟩⟩
    have hq:(y==nm)=false:=by rw [← Qt,beq_iff_eq];exact heq
    have HQ:=Qq hq
    clear heq
    go_wp2_with fail
    go_quiet (fail)
    go_wp2_with fail
    go_roundw
    case measure=>simp [intOf];omega
    case rel=>
     refine ⟨j+1,Qqj,by go_num,(show Aside _ from fun i z hi hz=>?_),aD.out.thn (Yq _ _)⟩
     by_cases e:i=j
     ·subst e
      have:=HY.out
      rw [this] at hz
      cases hz
      exact HQ.out
     exact A.out i z Qqj hz
   have cU:j=k:=Qqj
   subst cU
   have hd:=cB.out.below G.out
   have N:=kE G.out cQ HX.out
   obtain ⟨c0,c1,c2,c3,c4⟩:=row5 N
   obtain ⟨f0,f1,f2,f3,f4⟩:=frz5 N
   obtain ⟨aW,aX,aY,aZ,bA⟩:=bW.out
   have d0:=kD G.out U aW;have d1:=kD G.out U aX;have d2:=kD G.out U aY;have d3:=kD G.out U aZ;have d4:=kD G.out U bA
   have aE:=Qq (fun W (hb:Below wr wr W)=>rins_any (fun b=>(S b∧b<w)∨w+2≤b) (V8 (Yt ((names.zip vals).take j)).1 (Yt ((names.zip vals).take j)).2) x nm p3 k3 p4 k4 (Qqg x q3 l3 q4 l4) W (aH.out.move (.of_below (G.out.thn hb)) Qzx) (cC.out.move (.of_below (G.out.thn hb)) (fun b _ h=>.inl h)) (by have:=(U4 ((names.zip vals).take j)).1;rw [M.out] at this;show (Yt ((names.zip vals).take j)).1.length≤k3;omega) (by have:=(U4 ((names.zip vals).take j)).2;rw [M.out] at this;show (Yt ((names.zip vals).take j)).2.length≤k4;omega)
    (by have h1:=(U4 ((names.zip vals).take j)).1;have h2:=(U4 ((names.zip vals).take j)).2;show (Yt ((names.zip vals).take j)).1.length=(Yt ((names.zip vals).take j)).2.length;omega) (by have:=(U4 ((names.zip vals).take j)).1;rw [M.out] at this;show (Yt ((names.zip vals).take j)).1.length≤1000;omega) bL)
   rw [E6,M.out] at aE
   unfold sv at aE
   have cA:=Qq hd;have dI:=Qq N
   have D:w.heap.size+1<wr.heap.size:=Z8 N
   clear hd N aW aX aY aZ bA
   have cS:(j:Int)<(n:Int):=Qqj
   have cT:¬ (j:Int)<(j:Int):=Qqj
   go_upto_region 14 with fail
   go_region_with (go_at_call 108;refine (aE.out _ (Qz _ _).drew).mono ?_;rintro e w7 ⟨r3,m3,r4,m4,rfl,bG,bH,bM,I⟩;have bJ:=cA.out.next ((Qz _ wr).drew.thn I) bG bH bM;rw [M.out] at bJ;obtain ⟨aB,bI⟩:=bJ;rw [aB];have bZ:=Qq bI;have g0:=Qzy ((Qz _ wr).drew.thn I) D f0;have g1:=Qzy ((Qz _ wr).drew.thn I) D f1;have g2:=Qzy ((Qz _ wr).drew.thn I) D f2;have g3:=Qzy ((Qz _ wr).drew.thn I) D f3;have g4:=Qzy ((Qz _ wr).drew.thn I) D f4;have e0:=kD ((Qz _ wr).drew.thn I) D c0;have e1:=kD ((Qz _ wr).drew.thn I) D c1;have e2:=kD ((Qz _ wr).drew.thn I) D c2;have e3:=kD ((Qz _ wr).drew.thn I) D c3;have e4:=kD ((Qz _ wr).drew.thn I) D c4;clear bG bH bM I bI aB)
   all_goals
    go_wp2_with fail
    go_roundw
    case measure=>simp [intOf];omega
    case rel=>
     refine ⟨j+1,Qqj,by go_num,(show Aside _ from ?_),(show Aside _ from fun i j' z dM hi h1 h2=>?_)⟩
     ·have:(names.zip vals).take (j+1)=(names.zip vals).take j++[(nm,x)]:=by
       have cV:j<(names.zip vals).length:=by rw [List.length_zip,HN.out,HM.out];omega
       rw [Zz cV,List.getElem_zip]
       obtain ⟨_,e1⟩:=Qj aF.out
       obtain ⟨_,e2⟩:=Qj cD.out
       rw [e1,e2]
      show Js S w _ _
      rw [this];exact bZ.out
     by_cases e:j'=j
     ·subst e
      rw [aF.out] at h2
      cases h2
      have:=A.out i _ hi h1
      simp at this
     exact HD.out i j' z Qqj hi h1 h2
  have cW:k=n:=Qqj
  subst cW
  have hz:(names.zip vals).take k=names.zip vals:=Zj (by rw [List.length_zip,HN.out,HM.out];omega)
  rw [hz] at aH
  have aC:(names.zip vals).length=k:=by rw [List.length_zip,HN.out,HM.out];omega
  have hc:=E6 (names.zip vals) p3 k3 p4 k4
  rw [aC] at hc
  have HC:=Qq hc
  obtain ⟨c0,c1,c2,c3,c4⟩:=row5 HX.out
  obtain ⟨z0,z1,z2,z3,z4⟩:=row5 HZ.out
  obtain ⟨f0,f1,f2,f3,f4⟩:=frz5 HZ.out
  clear hz aC hc hlt
  go_wp2_with fail
  show bodyPost _ _ _ _ _ (Zl wr w (.int .i64 4) Qqd Qqe (.slice p3 k k3) (.slice p4 k k4))
  refine Q7 (v:=.tuple #[.agg #[.int .i64 4,Qqd,Qqe,.slice p3 k k3,.slice p4 k k4],Qqd]) (by simp [results,results69,go_sem,Zd HZ.out]) rfl ⟨Zc HB.out (Q9 _),.inr ⟨p3,k3,p4,k4,J.out,by rw [HC.out],by rw [HN.out];exact h3,by rw [HN.out];exact h4,?_⟩⟩
  refine aH.out.move (fun b hS _=>Zf ?_) (fun b _ hS=>?_)
  ·rcases hS with h | h <;> omega
  rcases hS with h | h
  ·exact .inl h.1
  exact .inr Qqj
 have hq:((names.length:Int) != (vals.length:Int))=true:=by rw [bne_iff_ne];omega
 have J:=Qq hlen
 clear hlen
 go_enter func69,ntmps69
 go_wp2_with fail
 exact Q7 (v:=.tuple #[.agg zV,.int .i64 1]) (by simp [results,results69,go_sem]) rfl ⟨Zg _ _,.inl ⟨1,Qqx,rfl,fun h=>J.out h.1⟩⟩
theorem Ae {T:Type} {l:List T} {i:Nat} {x y:T} (h:y ∈ Xg l i x):y ∈ l∨y=x:=by
 unfold Xg at h
 rcases Z4.1 h with h | h
 ·exact .inl (List.mem_of_mem_take h)
 rcases Z3.1 h with h | h
 ·exact .inr h
 exact .inl (Zw h)
theorem rec2_mem:∀ {z:List (Bs × Val)} {y:Val},y ∈ (Yt z).2→∃ x,(x,y) ∈ z:=by
 have:∀ (z:List (Bs × Val)) (A:List Bs × List Val) (y:Val),y ∈ (z.foldl Jw A).2→y ∈ A.2∨∃ x,(x,y) ∈ z:=by
  intro z
  induction z with
  | nil=>intro A y h;exact .inl h
  | cons p z ih=>
   intro A y h
   rcases ih (Jw A p) y h with h | ⟨x,h⟩
   ·rcases Ae h with h | h
    ·exact .inl h
    exact .inr ⟨p.1,by rw [h];exact List.mem_cons_self⟩
   exact .inr ⟨x,List.mem_cons_of_mem _ h⟩
 intro z y h
 rcases this z ([],[]) y h with h | h
 ·simp at h
 exact h
def Vq (k:Int) (nm:Bs) (names:List Bs) (vals:List Val):Option Val:=
 if k=5 then some (vMake nm vals)
 else if k=9 then (if vals.length≤4096 then some (vList vals) else none)
 else if k=6 then (if names.length=vals.length then some (V8 (Yt (names.zip vals)).1 (Yt (names.zip vals)).2) else none)
 else if k=8 then vals[0]?.bind fun v=>Ys v nm
 else if k=7 then (match names,vals with
  | [x],[v,y]=>Dz v x y
  | _,_=>none)
 else none
theorem Nm (nm:Bs) (n:Int) (sx:Bs) (names binds:List Bs) (kids:List Ex) (a z:Int) (S:Nat→Prop) (ce:List Value) (vv:Value) (vals:List Val) (w:World) (he:Yv S w ce (.mk 5 nm n sx names binds kids a z)) (hv0:Sl Ze S w vv vals) (hb:∀ v ∈ vals,Y3 v) :Calls prog 148 #[ce,vv] w (X6 S w (Vq 5 nm names vals)):=by
 have J:=hv0.up
 obtain ⟨vp,vc,rfl,O⟩:=J.len
 obtain ⟨nv,bv,kv,rfl,I,N,G,A,hk⟩:=Yx.1 he
 obtain ⟨p1,c1,rfl,_⟩:=G.len
 obtain ⟨p2,c2,rfl,_⟩:=A.len
 obtain ⟨p3,c3,rfl,_⟩:=hk.len
 obtain ⟨HV,D,M⟩:=Qqo J hb G
 clear he hv0 J G A hk hb
 unfold sv
 go_enter func148,ntmps148
 go_wp2_with fail
 refine Q7 (v:=.tuple #[.agg #[.int .i64 3,Qqd,nm,Qqf,.slice vp vals.length vc],.bool true]) (by simp [results,results148,go_sem]) rfl ⟨3,0,⟨nm.toArray⟩,none,0,0,vp,vals.length,vc,true,rfl,.yes (v:=.mk 3 0 nm [] vals) (Y8 I (Sl.nil _ _ _) ((HV.out.mono (fun b _ h=>.inl h.1)).below (Zt _ _ _))) (.mk _ _ _ _ _ (fun h=>by cases h) D.out) rfl,Zt _ _ _⟩
theorem Pz (nm:Bs) (n:Int) (sx:Bs) (names binds:List Bs) (kids:List Ex) (a z:Int) (S:Nat→Prop) (ce:List Value) (vv:Value) (vals:List Val) (w:World) (he:Yv S w ce (.mk 9 nm n sx names binds kids a z)) (hv0:Sl Ze S w vv vals) (hb:∀ v ∈ vals,Y3 v) (hl:vals.length≤4096):Calls prog 148 #[ce,vv] w (X6 S w (Vq 9 nm names vals)):=by
 have I:=hv0.up
 obtain ⟨vp,vc,rfl,O⟩:=I.len
 obtain ⟨nv,bv,kv,rfl,M,N,G,A,hk⟩:=Yx.1 he
 obtain ⟨p1,c1,rfl,_⟩:=G.len
 obtain ⟨p2,c2,rfl,_⟩:=A.len
 obtain ⟨p3,c3,rfl,_⟩:=hk.len
 obtain ⟨HV,D,J⟩:=Qqo I hb G
 clear he hv0 I G A hk hb
 unfold sv
 have hq:(vals.length:Int)≤4096:=Qqj
 go_enter func148,ntmps148
 go_wp2_with fail
 refine Q7 (v:=.tuple #[.agg #[.int .i64 5,Qqd,Qqe,Qqf,.slice vp vals.length vc],.bool true]) (by simp [results,results148,go_sem]) rfl ⟨5,0,⟨#[]⟩,none,0,0,vp,vals.length,vc,true,rfl,.yes (v:=.mk 5 0 [] [] vals) (Y8 (s:=[]) Qqk (Sl.nil _ _ _) ((HV.out.mono (fun b _ h=>.inl h.1)).below (Zt _ _ _))) (.mk _ _ _ _ _ (fun h=>by cases h) D.out) (by unfold Vq;rw [if_neg Qqx,if_pos rfl,if_pos hl];rfl),Zt _ _ _⟩
theorem Oh (k:Int) (nm:Bs) (n:Int) (sx:Bs) (names binds:List Bs) (kids:List Ex) (a z:Int) (S:Nat→Prop) (ce:List Value) (vv:Value) (vals:List Val) (w:World) (he:Yv S w ce (.mk k nm n sx names binds kids a z)) (hv0:Sl Ze S w vv vals) (hb:∀ v ∈ vals,Y3 v) (hk5:k≠5) (hk9:k≠9) (hk6:k≠6) (hk8:k≠8) (hk7:k≠7):Calls prog 148 #[ce,vv] w (X6 S w (Vq k nm names vals)):=by
 have I:=hv0.up
 obtain ⟨vp,vc,rfl,T⟩:=I.len
 obtain ⟨nv,bv,kv,rfl,N,O,G,A,hk⟩:=Yx.1 he
 obtain ⟨p1,c1,rfl,_⟩:=G.len
 obtain ⟨p2,c2,rfl,_⟩:=A.len
 obtain ⟨p3,c3,rfl,_⟩:=hk.len
 obtain ⟨HV,J,M⟩:=Qqo I hb G
 clear he hv0 I G A hk hb
 unfold sv
 have q5:(k==5)=false:=by simpa using hk5
 have q9:(k==9)=false:=by simpa using hk9
 have q6:(k==6)=false:=by simpa using hk6
 have q8:(k==8)=false:=by simpa using hk8
 have q7:(k==7)=false:=by simpa using hk7
 have D:Hid (Vq k nm names vals=none):=Qq (by unfold Vq;rw [if_neg hk5,if_neg hk9,if_neg hk6,if_neg hk8,if_neg hk7])
 clear hk5 hk9 hk6 hk8 hk7
 go_enter func148,ntmps148
 go_wp2_with fail
 refine Q7 (v:=.tuple #[.agg zV,.bool false]) (by simp [results,results148,go_sem]) rfl ⟨0,0,⟨#[]⟩,none,0,0,none,0,0,false,rfl,.no D.out,Zt _ _ _⟩
theorem Ru (nm:Bs) (n:Int) (sx:Bs) (names binds:List Bs) (kids:List Ex) (a z:Int) (S:Nat→Prop) (ce:List Value) (vv:Value) (vals:List Val) (w:World) (he:Yv S w ce (.mk 6 nm n sx names binds kids a z)) (hv0:Sl Ze S w vv vals) (hb:∀ v ∈ vals,Y3 v) (hw:∀ x ∈ names,Va x) (hnd:names.Nodup) (hnl:names.length≤1000):Calls prog 148 #[ce,vv] w (X6 S w (Vq 6 nm names vals)):=by
 have hv:=hv0.up
 obtain ⟨vp,vc,rfl,bA⟩:=hv.len
 obtain ⟨nv,bv,kv,rfl,aY,aZ,hn,aE,hk⟩:=Yx.1 he
 obtain ⟨p1,c1,rfl,_⟩:=hn.len
 obtain ⟨p2,c2,rfl,_⟩:=aE.len
 obtain ⟨p3,c3,rfl,_⟩:=hk.len
 obtain ⟨HV,aK,aM⟩:=Qqo hv hb hn
 clear he hv0 hv hn aE hk hb
 unfold sv
 have aA:=Qq (fun W (hb:Below w w W)=>Bb (fun b=>S b∧b<w) _ _ names vals W ((aM.out.mono (fun b hb h=>⟨h,hb⟩)).below hb) (HV.out.below hb) hw hnl)
 clear hw
 go_enter func148,ntmps148
 go_wp2_with fail
 refine (aA.out _ (Zt _ _ _)).mono ?_
 rintro e w1 ⟨M,V⟩
 have J:=(M.block (w+1) Qqk).trans (Q6 _ _ _)
 have aD:=Qq J;have Z:=Qq ((Zt w _ _).thn M)
 have aH:=Z8 J
 rcases V with ⟨aO,aG,rfl,aI⟩ | ⟨q3,l3,q4,l4,N,rfl,_,_,Y⟩
 ·have T:Hid (Vq 6 nm names vals=none):=Qq (by
   unfold Vq
   rw [if_neg Qqx,if_neg Qqx,if_pos rfl,if_neg]
   intro N
   exact aI ⟨N,fun i j x aP h1 h2=>by
    obtain ⟨l1,e1⟩:=Qj h1
    obtain ⟨l2,e2⟩:=Qj h2
    exact List.pairwise_iff_getElem.1 hnd i j l1 l2 aP (e1.trans e2.symm)⟩)
  clear aI
  have hq:(aO==0)=false:=by simpa using aG
  clear aG M J
  go_upto_region 8 with fail
  generalize G:w1.alloc _=W2
  have D:=eqB G (Zg _ _)
  have I:=eqH (b:=w1.heap.size) G (Qw _ _)
  have A:=kE D aH aD.out
  have U:=Qq A;have O:=Qq (Z.out.thn D)
  obtain ⟨x0,x1,x2,x3,x4⟩:=row5 I
  obtain ⟨z0,z1,z2,z3,z4⟩:=row5 A
  obtain ⟨f0,f1,f2,f3,f4⟩:=frz5 A
  clear G D I A
  go_wp2_with fail
  show bodyPost _ _ _ _ _ (Zl W2 (w+1) Qqd Qqd Qqe Qqf Qqf)
  refine Q7 (v:=.tuple #[.agg zV,.bool false]) (by simp [results,results148,go_sem,Zd U.out]) rfl ⟨0,0,⟨#[]⟩,none,0,0,none,0,0,false,rfl,.no T.out,Zc O.out Qqj⟩
 have T:Hid (Vq 6 nm names vals=some (V8 (Yt (names.zip vals)).1 (Yt (names.zip vals)).2)):=Qq (by
  unfold Vq
  rw [if_neg Qqx,if_neg Qqx,if_pos rfl,if_pos N])
 clear N
 obtain ⟨aS,aT⟩:=U4 (names.zip vals)
 have aF:Y3 (V8 (Yt (names.zip vals)).1 (Yt (names.zip vals)).2):=.mk _ _ _ _ _ (fun h=>by cases h) (fun y hy=>by
  obtain ⟨x,hx⟩:=rec2_mem hy
  exact aK.out y (List.of_mem_zip hx).2)
 have aL:=Qq aF
 rw [E6] at Y ⊢
 have aB:=Qq Y
 obtain ⟨r,hr⟩:=eX ((names.zip vals).length)
 rw [hr] at aB ⊢
 clear Y M J aF aS aT hr
 go_upto_region 8 with fail
 generalize G:w1.alloc _=W2
 have D:=eqB G (Zg _ _)
 have I:=eqH (b:=w1.heap.size) G (Qw _ _)
 have A:=kE D aH aD.out
 have U:=Qq A;have O:=Qq (Z.out.thn D)
 have aC:=Qq (aB.out.move (S':=fun b=>(S b∧b≠w+1)∨w+2≤b) (.of_below D) (fun b _ h=>by
  rcases h with h | h
  ·exact .inl ⟨h.1,by have:=h.2;omega⟩
  exact .inr (by simpa using h)))
 obtain ⟨x0,x1,x2,x3,x4⟩:=row5 I
 obtain ⟨z0,z1,z2,z3,z4⟩:=row5 A
 obtain ⟨f0,f1,f2,f3,f4⟩:=frz5 A
 clear G D I A
 go_wp2_with fail
 show bodyPost _ _ _ _ _ (Zl W2 (w+1) (.int .i64 4) Qqd Qqe (.slice q3 r l3) (.slice q4 r l4))
 refine Q7 (v:=.tuple #[.agg #[.int .i64 4,Qqd,Qqe,.slice q3 r l3,.slice q4 r l4],.bool true]) (by simp [results,results148,go_sem,Zd U.out]) rfl ⟨4,0,⟨#[]⟩,q3,r,l3,q4,r,l4,true,rfl,.yes ?_ aL.out T.out,Zc O.out Qqj⟩
 exact aC.out.move (fun b hb _=>Zf Qqj) (fun b _ hb=>by
  rcases hb with h | h
  ·exact .inl h.1
  exact .inr Qqj)
theorem Nz (nm:Bs) (n:Int) (sx:Bs) (names binds:List Bs) (kids:List Ex) (a z:Int) (S:Nat→Prop) (ce:List Value) (vv:Value) (vals:List Val) (w:World) (he:Yv S w ce (.mk 8 nm n sx names binds kids a z)) (hv0:Sl Ze S w vv vals) (hb:∀ v ∈ vals,Y3 v) (v0:Val) (hv00:vals[0]?=some v0):Calls prog 148 #[ce,vv] w (X6 S w (Vq 8 nm names vals)):=by
 have hv:=hv0.up
 obtain ⟨vp,vc,rfl,bH⟩:=hv.len
 obtain ⟨nv,bv,kv,rfl,bF,bG,hn,aF,hk⟩:=Yx.1 he
 obtain ⟨p1,c1,rfl,_⟩:=hn.len
 obtain ⟨p2,c2,rfl,_⟩:=aF.len
 obtain ⟨p3,c3,rfl,_⟩:=hk.len
 obtain ⟨HV,aP,bB⟩:=Qqo hv hb hn
 clear he hv0 hv hn aF hk hb
 unfold sv
 obtain ⟨vb,bA,q3,l3,q4,l4,rfl,G,aH,d0,d1,d2,d3,d4⟩:=HV.out.val hv00
 have HG:=Qq (fun W (hb:Below w w W)=>Hb (fun b=>S b∧b<w) v0 (Qqg v0 q3 l3 q4 l4) nm W (Z9.move aH (.of_below hb) Qzx))
 unfold sv at HG
 have aZ:0<vals.length:=(Qj hv00).1
 have bE:(0:Int)<(vals.length:Int):=Qqj
 have aE:=aP.out v0 (Qy hv00)
 have aN:=Qq aE
 simp only [Nat.zero_mul,Nat.add_zero] at d0 d1 d2 d3 d4
 have D:=Qq (Qe d0 (Qe d1 (Qe d2 (Qe d3 d4))))
 have V:Hid (Vq 8 nm names vals=Ys v0 nm):=Qq (by
  unfold Vq
  rw [if_neg Qqx,if_neg Qqx,if_neg Qqx,if_pos rfl,hv00];rfl)
 clear aH hv00 aE d0 d1 d2 d3 d4
 go_enter func148,ntmps148
 go_upto_region 10 with fail
 generalize I:(w.alloc _).alloc _=W1
 have A:=eqB I (Zt _ _ _)
 have aD:=eqH (b:=w.heap.size) I (Q5 _ _ _)
 have M:=eqH (b:=w.heap.size+1) I (Q6 _ _ _)
 have U:=Qq A;have aR:=Qq M
 have aT:=Z8 M
 have bC:=rA1 aD
 obtain ⟨Y,Z,aA,aB,aC⟩:=D.out
 have d0:=kD A G Y;have d1:=kD A G Z;have d2:=kD A G aA;have d3:=kD A G aB;have d4:=kD A G aC
 clear I A aD M Y Z aA aB aC
 go_region_with (go_at_call 43;refine (HG.out _ (U.out.thn (Qz _ _).drew)).mono ?_;rintro e w5 ⟨bD,rfl,T,N⟩;obtain ⟨t3,s3,t4,s4,aG,_⟩:=Z9.cells T;simp only [vcs] at aG;subst aG;have J:=kE ((Qz _ W1).drew.thn N) aT aR.out;obtain ⟨aS,aO,aQ⟩:=Qqo J (U.out.thn ((Qz _ W1).drew.thn N)) T;obtain ⟨y0,y1,y2,y3,y4⟩:=row5 J;obtain ⟨g0,g1,g2,g3,g4⟩:=frz5 J;clear T N J)
 all_goals
  go_wp2_with fail
  show bodyPost _ _ _ _ _ (Zl w5 (w+1) (.int .i64 ((Ys v0 nm).getD Val.zero).kind) (.int .i64 ((Ys v0 nm).getD Val.zero).n) (.string ⟨((Ys v0 nm).getD Val.zero).s.toArray⟩) (.slice t3 ((Ys v0 nm).getD Val.zero).names.length s3) (.slice t4 ((Ys v0 nm).getD Val.zero).kids.length s4))
  refine Q7 (v:=.tuple #[.agg #[.int .i64 ((Ys v0 nm).getD Val.zero).kind,.int .i64 ((Ys v0 nm).getD Val.zero).n,.string ⟨((Ys v0 nm).getD Val.zero).s.toArray⟩,.slice t3 ((Ys v0 nm).getD Val.zero).names.length s3,.slice t4 ((Ys v0 nm).getD Val.zero).kids.length s4],.bool (Ys v0 nm).isSome]) (by simp [results,results148,go_sem,Zd aS.out]) rfl ⟨_,_,_,t3,_,s3,t4,_,s4,_,rfl,⟨fun O=>⟨(Ys v0 nm).getD Val.zero,?_,?_,?_⟩,fun O=>?_⟩,Zc aO.out Qqj⟩
  ·exact aQ.out.move (fun b hb _=>Zf (by have:=hb.2;omega)) (fun b _ hb=>.inl hb.1)
  rotate_left
  ·rw [V.out]
   obtain ⟨u,hu⟩:=Option.isSome_iff_exists.1 O
   rw [hu];rfl
  ·rw [V.out];simpa using O
  cases hg:Ys v0 nm with
  | none=>exact Y3.zero
  | some u=>
   obtain ⟨i,_,hu,_⟩:=Dm hg
   exact aN.out.kids u (Qy hu)
end Go.Proofs.YtdpibdpbgokmoaaGreatDoor
