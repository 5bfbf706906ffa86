import Derived.Test.YtdpibdpbgokmoaaGreatDoorA19
import Derived.Test.YtdpibdpbgokmoaaGreatDoorA16
set_option maxRecDepth 100000
set_option maxHeartbeats 400000000
namespace Go.Proofs.YtdpibdpbgokmoaaGreatDoor
open Go.RowKit Go.Shelf Go.Lib Tryz
theorem Own.set5 {E:TypeId} {S:Nat->Prop} {B:Nat} {w:World} {g n cap:Nat} {xs:List Val} {css:List (List Value)} (hn:xs.length=n) (h:Own Zc E S B w (.slice (some ⟨g,0,none⟩) n cap) xs css) {i:Nat} (hi:i<n) {a b c d e:Value} {x:Val} (hx:Z9 (But S (.slice (some ⟨g,0,none⟩) n cap)) w [a,b,c,d,e] x):
  Own Zc E S B (((((w.setCell ⟨g,i*5,none⟩ a).setCell ⟨g,i*5+1,none⟩ b).setCell ⟨g,i*5+2,none⟩ c).setCell ⟨g,i*5+3,none⟩ d).setCell ⟨g,i*5+4,none⟩ e) (.slice (some ⟨g,0,none⟩) n cap) (xs.set i x) (css.set i [a,b,c,d,e]):=by
 subst hn
 have J:=h.cs.len
 have hA:∀ A,A≠g->(((((w.setCell ⟨g,i*5,none⟩ a).setCell ⟨g,i*5+1,none⟩ b).setCell ⟨g,i*5+2,none⟩ c).setCell ⟨g,i*5+3,none⟩ d).setCell ⟨g,i*5+4,none⟩ e).heap[A]?=w.heap[A]?:=λA hb=>Vj hb
 refine ⟨by rw [List.length_set];exact store5 h.row J h.cs.all i hi a b c d e,⟨by rw [List.length_set,List.length_set];exact J,λj cs y D G=>?_⟩⟩
 by_cases hj:j=i
 ·subst hj
  rw [List.getElem?_set_self (by rw [J];exact hi)] at D
  rw [List.getElem?_set_self hi] at G
  cases D;cases G
  exact hx.move (λA I _=>hA A (λe=>I.2 (by rw [e];rfl))) Ij
 rw [List.getElem?_set_ne (Ne.symm hj)] at D G
 exact Z9.move (h.cs.R j cs y D G) (λA I _=>hA A (λe=>I.2 (by rw [e];rfl))) Ij
theorem Sp {v:Val} {x:Bs} (y:Val) (h:Yp v x=none):Dr v x y=none:=by
 unfold Yp at h
 unfold Dr
 split at h
 ·rename_i h4
  rw [if_pos h4]
  cases hn:Vh v.names x with
  | none=>rfl
  | some i=>
   rw [hn] at h
   rw [List.getElem?_eq_none_iff] at h
   show (if i<v.kids.length then _ else none)=none
   rw [if_neg Ia]
 rename_i h4
 rw [if_neg h4]
theorem Wf {v u:Val} {x:Bs} (y:Val) {i:Nat} (h:Yp v x=some u) (hi:Uw v x=i):Dr v x y=some (.mk v.kind v.n v.s v.names (v.kids.set i y)):=by
 obtain ⟨j,hj,hu,hb⟩:=F9 h
 have e:j=i:=by
  unfold Uw at hi
  rw [hb,hj,if_pos rfl] at hi
  omega
 subst e
 unfold Yp at h
 unfold Dr
 split at h
 ·rename_i h4
  rw [if_pos h4]
  cases hn:Vh v.names x with
  | none=>rw [hn] at h;cases h
  | some i=>
   have hi:X6 v x=i:=by
    unfold Vh at hn
    unfold X6 X8
    rw [hn]
   rw [hj] at hi
   obtain rfl:j=i:=Ia
   show (if j<v.kids.length then _ else none)=_
   rw [if_pos (Qj hu).1]
 cases h
theorem Wm {u v y:Val} {x:Bs} (h:Dr u x y=some v):v.kind=4:=by
 unfold Dr at h
 split at h
 ·rename_i h4
  split at h
  ·split at h
   ·cases h;exact h4
   cases h
  cases h
 cases h
theorem Qjr (S:Nat->Prop) (v x:Val) (name:Bs) (cv cx:List Value) (w:World) (hv0:Z9 S w cv v) (hx0:Z9 S w cx x) (hbv:Y3 v) (hbx:Y3 x):
  Calls prog 171 #[cv,sv name,cx] w (X7 S w (Dr v name x)):=by
 have hv:Z9 (λb=>S b/\b<w) w cv v:=hv0.move (.refl _ _) (λb hb h=>⟨h,hb⟩)
 have hx:Z9 (λb=>S b/\b<w) w cx x:=hx0.move (.refl _ _) (λb hb h=>⟨h,hb⟩)
 clear hv0 hx0
 have HF:=Qq (λW (hb:Below w w W)=>Hc _ v cv name W (hv.move (.f hb) Ij))
 obtain ⟨p3,k3,p4,k4,bC,bF,aC,cN⟩:=Z9.cells hv
 obtain ⟨q3,l3,q4,l4,bD,_⟩:=Z9.cells hx
 have cB:=Qq hx
 simp only [Il] at bC bD
 subst bC;subst bD
 have hl:v.kids.length<=1000000:=by obtain ⟨_,_,_,h⟩:=aC.len;exact h
 obtain ⟨bS,aN,aK,bM⟩:=It bF aC hbv hbx
 obtain ⟨i0,j1,j2,j3,j4⟩:=Y8 (P:=prog) (t:=36) (z:=.agg zV) (n:=5) (b:=80) Ir
 obtain ⟨HJ,bN,bO,bP⟩:=It j1 j2 j3 j4
 clear j1 j2 j3 j4
 clear hv hx bF aC hbv hbx
 unfold sv at HF |-
 cases hg:Yp v name with
 | none=>
  rw [Gh hg] at HF
  have Z:=Qq (Sp x hg)
  clear hg
  go_enter func171,ntmps171
  go_wp2_with fail
  refine (HF.o _ (Xt _ _ _ _)).mono ?_
  rintro e w1 ⟨rfl,V⟩
  have Y:=(V.block (w+2) Ib).trans (Zi _ _ _ _)
  have HW:=Qq V;have HR:=Qq Y
  obtain ⟨y0,y1,y2,y3,y4⟩:=If Y
  obtain ⟨f0,f1,f2,f3,f4⟩:=Ip Y
  clear V Y
  go_wp2_with fail
  show bodyPost _ _ _ _ _ (Zl w1 (w+2) Ic Ic Ig Ie Ie)
  exact Q7 (v:=.tuple #[.agg zV,.bool false]) (by simp [results,results171,go_sem,Ze HR.o]) rfl ⟨0,0,⟨#[]⟩,none,0,0,none,0,0,false,rfl,.no Z.o,Zd ((Xt w _ _ _).n HW.o) Ia⟩
 | some u=>
  obtain ⟨i,hi,aB⟩:=Bq hg
  have Z:=Qq (Wf x hg hi)
  rw [hi] at HF
  obtain ⟨n,hn⟩:=eX (v.kids.length)
  have cM:i<n:=by rw [<- hn];exact (Qj aB).1
  rw [hn] at HF aN hl |-
  have HN:=Qq hn
  have cX:(0:Int)<=(i:Int):=Ia
  have cY:(i:Int)<(n:Int):=Ia
  have cZ:decide ((i:Int)<0)=false:=Ib
  have bQ:=Qq aB;have cU:=Qq hg
  clear hg hi aB hn
  go_enter func171,ntmps171
  go_wp2_with fail
  refine (HF.o _ (Xt _ _ _ _)).mono ?_
  rintro e w1 ⟨rfl,V⟩
  have hX:=(V.block w (by simp;omega)).trans (Zp _ _ _ _)
  have hY:=(V.block (w+1) Ib).trans (Zo _ _ _ _)
  have Y:=(V.block (w+1+1) Ib).trans (Zi _ _ _ _)
  have M:=(Xt w _ _ _).n V
  obtain ⟨HX,HY,HR,aL⟩:=It hX hY Y M
  have cS:w.heap.size+1+1<w1.heap.size:=Z8 Y
  have c4:=Iz hX
  have hA:Sl Zc (But (λb=>S b/\b<w) (.slice none 0 0)) w1 (.slice p4 n k4) v.kids:=(aN.o.mono (S':=But (λb=>S b/\b<w) (.slice none 0 0)) (λb _ h=>⟨h,λe=>by cases e⟩)).below M
  have HA:=Qq hA
  have bE:([]:List Val).length+v.kids.length=n:=by rw [HN.o];simp
  have bR:=Qq bE
  clear V hX hY Y M hA bE
  go_upto_region 6 with (at_builtin;refine Xg (r:=Zc) Ih Xd rfl (.tmp 16) (.tmp 18) _ rfl 36 i0 (.agg zV) 80 underlying34 HJ.o bN.o bO.o bP.o rfl Ia (λb=>S b/\b<w) (w+3) w1 (.slice none 0 0) [] [] rfl (Own.nil _ _ _ _ _) (.slice p4 n k4) v.kids rfl HA.o n bR.o Ia Ia ?_;intro pa O cR wa aT aQ;have D:=Qq aT;have G:=Qq aQ;clear aT aQ)
  rw [List.nil_append] at D
  obtain ⟨g,cQ,bG,cV,cW⟩:=D.o.row.form (by rw [HN.o];omega)
  simp only [Qr] at bG
  obtain ⟨rfl,-,rfl⟩:=bG
  have aX:=kE G.o.below Ia HX.o
  have aZ:=kE G.o.below Ia HY.o
  have aU:=kE G.o.below Ia HR.o
  have N:Below w w wa:=aL.o.trans (G.o.below.mono Ia)
  have aW:Z9 (But (λb=>S b/\b<w) (.slice (some ⟨g,0,none⟩) n O)) wa (Is x q3 l3 q4 l4) x:=Z9.move cB.o (.f N) (λb hb h=>⟨h,λe=>by have:=(D.o.row.lt b e.symm).1;omega⟩)
  have aR:=D.o.set5 HN.o cM aW
  obtain ⟨bq,oq,t3,s3,t4,s4,he,_,_,d0,d1,d2,d3,d4⟩:=(show Sl Zc (λ_=>True) wa (.slice (some ⟨g,0,none⟩) n O) v.kids by have:=D.o.sl (S':=λ_=>True) (by rw [HN.o];omega) (λ_ _=>trivial) (λ_ _ _=>trivial);exact this).val bQ.o
  obtain ⟨rfl,rfl⟩:g=bq/\0=oq:=by simpa using he
  simp only [Nat.zero_add] at d0 d1 d2 d3 d4
  have A:=D.o.row
  rw [HN.o] at A
  have f0:=A.frozenAt (i*5);have f1:=A.frozenAt (i*5+1);have f2:=A.frozenAt (i*5+2);have f3:=A.frozenAt (i*5+3);have f4:=A.frozenAt (i*5+4)
  clear A
  obtain ⟨y0,y1,y2,y3,y4⟩:=If aZ
  obtain ⟨bT,bZ,bW,aM⟩:=It aR aX aU N
  have cT:=G.o.size
  clear he aR aX aZ aU N aW c4
  go_upto_region 7 with fail
  obtain ⟨W6,I⟩:=eX ((((((wa.setCell ⟨g,i*5,none⟩ (.int .i64 x.kind)).setCell ⟨g,i*5+1,none⟩ (.int .i64 x.n)).setCell ⟨g,i*5+2,none⟩ (.string ⟨x.s.toArray⟩)).setCell ⟨g,i*5+3,none⟩ (.slice q3 x.names.length l3)).setCell ⟨g,i*5+4,none⟩ (.slice q4 x.kids.length l4)))
  have aD:∀ b,b≠g->W6.heap[b]?=wa.heap[b]?:=λb hb=>by rw [<- I];exact Vj hb
  have dA:W6.heap.size=wa.heap.size:=by rw [<- I];simp [World.setCell]
  have aA:=bT.o
  rw [I] at aA |-
  have U:=(aD w Ia).trans bZ.o
  have aV:=(aD (w+1+1) Ia).trans bW.o
  have bA:Below w w W6:=by
   rw [<- I]
   exact ((((aM.o.setCell (p:=⟨g,i*5,none⟩) (by show w<=g;omega) _).setCell (p:=⟨g,i*5+1,none⟩) (by show w<=g;omega) _).setCell (p:=⟨g,i*5+2,none⟩) (by show w<=g;omega) _).setCell (p:=⟨g,i*5+3,none⟩) (by show w<=g;omega) _).setCell (p:=⟨g,i*5+4,none⟩) (by show w<=g;omega) _
  obtain ⟨aO,cA,bX,bL⟩:=It aA U aV bA
  obtain ⟨c0,c1,c2,c3,c4⟩:=If U
  have cH:=fA 4 U
  clear I aD aA U aV bA d0 d1 d2 d3 d4 f0 f1 f2 f3 f4 y0 y1 y2 y3 y4
  go_upto_region 8 with fail
  obtain ⟨W7,J⟩:=eX (W6.setCell ⟨w,4,none⟩ (.slice (some ⟨g,0,none⟩) n O))
  rw [J]
  have aY:W7.heap[w.heap.size]?=some (.cells #[v.kind,v.n,v.s,.slice p3 v.names.length k3,Io g 0 n O] 36 (0,0)):=by rw [<- J,Qi _ _ _ _ _ _ cA.o];rfl
  have aE:∀ b,b≠w.heap.size->W7.heap[b]?=W6.heap[b]?:=λb hb=>by rw [<- J];exact Za hb
  have T:=(aE (w+1+1) Ia).trans bX.o
  have bB:Below w w W7:=by rw [<- J];exact bL.o.setCell (p:=⟨w,4,none⟩) (Q9 _) _
  have aS:Own Zc 36 (λb=>S b/\b<w) (w+3) W7 (.slice (some ⟨g,0,none⟩) n O) (v.kids.set i x) _:=aO.o.move (Q9 _) (λb _ h=>aE b (by
   rcases h with h | h
   ·have:=h.2;omega
   have:=(aO.o.row.lt b h).1;omega))
  obtain ⟨bY,aJ,bU⟩:=Im T bB aS
  clear c0 c1 c2 c3 c4 cH
  obtain ⟨e0,e1,e2,e3,e4⟩:=If aY
  obtain ⟨r0,r1,r2,r3,r4⟩:=If T
  obtain ⟨f0,f1,f2,f3,f4⟩:=Ip T
  clear J aY aE T bB aS
  go_wp2_with fail
  show bodyPost _ _ _ _ _ (Zl W7 (w+1+1) v.kind v.n v.s (.slice p3 v.names.length k3) (Io g 0 n O))
  refine Q7 (v:=.tuple #[.agg #[v.kind,v.n,v.s,.slice p3 v.names.length k3,Io g 0 n O],.bool true]) (by simp [results,results171,go_sem,Ze bY.o]) rfl ⟨v.kind,v.n,⟨v.s.toArray⟩,p3,v.names.length,k3,some ⟨g,0,none⟩,n,O,true,rfl,.yes (v:=.mk v.kind v.n v.s v.names (v.kids.set i x)) ?_ ?_ Z.o,Zd aJ.o Ia⟩
  ·have cL:(v.kids.set i x).length=n:=by rw [List.length_set,HN.o]
   have cK:Sl Zc (λb=>(S b/\b<w)\/w+3<=b) W7 (.slice (some ⟨g,0,none⟩) n O) (v.kids.set i x):=bU.o.sl (by rw [cL];omega) (λb hb=>.inr hb) (λb _ h=>.inl h)
   refine Yb cN ?_ ?_
   ·exact ((bS.o.below aJ.o).frame (λb hb _=>Zf (by have:=hb.2;omega))).mono (λb _ hb=>.inl hb.1)
   refine (cK.frame (λb hb _=>Zf Ia)).mono (λb _ hb=>?_)
   rcases hb with h | h
   ·exact .inl h.1
   exact .inr Ia
  refine .mk _ _ _ _ _ (λh=>aK.o.bool h) (λy hy=>?_)
  rcases List.mem_or_eq_of_mem_set hy with h | h
  ·exact aK.o.kids y h
  rw [h];exact bM.o
theorem Mr {T:Type} {l:List T} {k:Nat} {x:T} (h:l[k]?=some x):l.take (k+1)=l.take k++[x]:=by
 rw [List.take_add_one,h];rfl
theorem T8 (S S':Nat->Prop) (av bv:Value) (a b:List Bs) (w:World) (ha:Sl Zh S w av a) (hb:Sl Zh S' w bv b):
  Calls prog 141 #[av,bv] w λe w'=>e=.returned (.bool (decide (a=b)))/\Gr w w':=by
 obtain ⟨pa,ca,rfl,V⟩:=ha.len
 obtain ⟨pb,cb,rfl,Y⟩:=hb.len
 have HA:=Qq ha;have HB:=Qq hb
 clear ha hb
 obtain ⟨r,Z⟩:=eX (decide (a=b))
 rw [Z]
 have T:=Qq Z
 clear Z
 by_cases hl:a.length=b.length
 ·have D:((a.length:Int) != (b.length:Int))=false:=by simp [hl]
  have HL:=Qq hl
  obtain ⟨n,N⟩:=eX (a.length)
  have M:b.length=n:=Ia
  rw [N] at HA V;rw [M] at HB Y
  rw [N,M] at D
  have HN:=Qq N;have HM:=Qq M
  rw [N,M]
  clear hl N M
  go_enter func141,ntmps141
  go_wp2_with fail
  clear D
  go_loopw [5] (λi wr=>∃ k:Nat,k<=n/\i=.int .i64 k/\Aside (a.take k=b.take k)/\Aside (Gr w wr)) (λi _=>n - (intOf i).toNat)
  case atStart=>exact ⟨0,Q8 _,rfl,rfl,Gr.refl _⟩
  obtain ⟨k,hk,rfl,ht,J⟩:=hrel
  have A:=Qq (show Gr w wr from J);have HT:=Qq (show a.take k=b.take k from ht)
  clear J ht
  by_cases hlt:k<n
  ·obtain ⟨x,O⟩:∃ x,a[k]?=some x:=⟨_,Qx (by rw [HN.o];exact hlt)⟩
   obtain ⟨y,I⟩:∃ y,b[k]?=some y:=⟨_,Qx (by rw [HM.o];exact hlt)⟩
   obtain ⟨ga,oa,rfl,c1,l1⟩:=(HA.o.below A.o.bl).str O
   obtain ⟨gb,ob,rfl,c2,l2⟩:=(HB.o.below A.o.bl).str I
   have HX:=Qq O;have HY:=Qq I
   have aB:(0:Int)<=(k:Int):=Ia
   have aC:(k:Int)<n:=Ia
   by_cases he:x=y
   ·subst he
    clear O I
    go_wp2_with fail
    go_quiet (fail)
    go_wp2_with fail
    go_roundw
    case rel=>exact ⟨k+1,Ia,by go_num,(show Aside _ from by show _=_;rw [Mr HX.o,Mr HY.o,HT.o]),A.o.n ⟨_,#[],by rw [Sort.grow_empty]⟩⟩
    case measure=>simp [intOf];omega
   have hq:(x==y)=false:=by rw [beq_eq_false_iff_ne];exact he
   have aD:(x != y)=true:=by rw [bne_iff_ne];exact he
   have G:r=false:=by
    rw [<- T.o,decide_eq_false_iff_not]
    intro e;subst e;rw [O] at I;exact he (Qb I)
   subst G
   clear O I he
   go_wp2_with fail
   go_quiet (fail)
   go_wp2_with fail
   go_ret
   exact ⟨rfl,A.o.n ⟨_,#[],by rw [Sort.grow_empty]⟩⟩
  have U:k=n:=Ia
  subst U
  have aA:r=true:=by
   rw [<- T.o,decide_eq_true_eq]
   have:=HT.o
   rw [Zj (by rw [HN.o];exact Q9 _),Zj (by rw [HM.o];exact Q9 _)] at this
   exact this
  subst aA
  go_wp2_with fail
  go_ret
  exact ⟨rfl,A.o⟩
 have D:((a.length:Int) != (b.length:Int))=true:=by rw [bne_iff_ne];omega
 have G:r=false:=by
  rw [<- T.o,decide_eq_false_iff_not]
  intro e;exact hl (by rw [e])
 subst G
 go_enter func141,ntmps141
 go_wp2_with fail
 go_ret
 exact ⟨rfl,Gr.refl _⟩
theorem own_blk {T:Type} {r:Rd T} {E:TypeId} {S:Nat->Prop} {B b n:Nat} {w:World} {cells:Array Value} {xs:List T} {css:List (List Value)} (hb:w.heap[b]?=some (.cells cells E (0,0))) (hB:B<=b) (hcs:Cs r (λx=>S x/\x≠b) w css xs) (hc:css.flatten=cells.toList) (hn:n=xs.length) (hl:xs.length<=1000000):Own r E S B w (.slice (some ⟨b,0,none⟩) n n) xs css:=by
 subst hn
 refine ⟨⟨hcs.flat,.inr ⟨b,xs.length,cells,rfl,hB,hb,Q9 _,by unfold maxLen;omega,?_,?_⟩⟩,hcs.move (.refl _ _) (λc _ h=>⟨h.1,λe=>h.2 (Qb e)⟩)⟩
 ·have:=hcs.flat
  rw [hc] at this
  simpa using this
 rw [<- hc,Zj (by rw [hcs.flat];exact Q9 _)]
theorem Kc {g:Nat} {W W':World} {c:Nat} {o:Obj} (h:Below g W W') (hc:c<g) (hg:W.heap[c]?=some o):W'.heap[c]?=some o:=(h.block c hc).trans hg
def Jm (w:World) (l:List Rel) (e:Ending) (w':World):Prop:=∃ p cap rvs,e=.returned (.slice p l.length cap)/\Ud w w' (.slice p l.length cap) l rvs/\Below w w w'
structure E5 (w:World) (g n cap:Nat) (l:List Rel) (css0:List (List Value)) (k:Nat) (rvs:List Value) (wx:World):Prop where
 below:Below w w wx
 len:rvs.length=k
 row:wx.ownsRow w 70 2 (.slice (some ⟨g,0,none⟩) n cap) n (Yc (l.take k) rvs++css0.drop k).flatten
 rows:∀ (i:Nat) (r:Rel) (rv:Value),i<k->l[i]?=some r->rvs[i]?=some rv->∃ css,Own Zc 36 (λb=>b<w) w wx rv r.rows css
 apart:∀ (i j:Nat) (a b:Value) (h:Nat),rvs[i]?=some a->rvs[j]?=some b->a.ownBlock=some h->b.ownBlock=some h->i=j
theorem E5.next {w wr w4:World} {g n cap:Nat} {l:List Rel} {css0:List (List Value)} {k:Nat} {rvs:List Value} {r:Rel} {rv0 rv':Value} {css:List (List Value)} (hM:E5 w g n cap l css0 k rvs wr) (hn:l.length=n) (hc0:css0.length=n) (hc2:∀ c ∈ css0,c.length=2)
  (hr:l[k]?=some r) (hc:css0[k]?=some [sv r.table,rv0]) (hb:Below wr wr w4) (ho:Own Zc 36 (λb=>b<w) wr w4 rv' r.rows css):
  E5 w g n cap l css0 (k+1) (rvs++[rv']) (w4.setCell ⟨g,k*2+1,none⟩ rv'):=by
 subst hn
 have hk:=(Qj hr).1
 have hg:=hM.row.lt g rfl
 have aH:=hM.below.size
 have I:(l.take k).length=k:=by rw [Qm];omega
 have V:(Yc (l.take k) rvs).length=k:=by rw [J1 (by rw [I];exact hM.len),I]
 have T:∀ c ∈ Yc (l.take k) rvs++css0.drop k,c.length=2:=by
  intro c aE
  rcases Z4.1 aE with h | h
  ·exact Ka c h
  exact hc2 c (Zw h)
 have aD:(Yc (l.take k) rvs++css0.drop k)[k]?=some [sv r.table,rv0]:=by
  rw [Zx Ia,V,Nat.sub_self,List.getElem?_drop,Nat.add_zero];exact hc
 have U:(Yc (l.take k) rvs++css0.drop k).set k [sv r.table,rv']=Yc (l.take (k+1)) (rvs++[rv'])++css0.drop (k+1):=by
  have hd:css0.drop k=css0[k]'Ia::css0.drop (k+1):=Qp Ia
  have hs:Yc (l.take (k+1)) (rvs++[rv'])=Yc (l.take k) rvs++[[sv r.table,rv']]:=by
   unfold Yc
   rw [Zz hk,List.zipWith_append (by rw [I,hM.len])]
   rw [Qx hk] at hr
   rw [Qb hr];rfl
  rw [hd,List.set_append_right _ _ Ia,V,Nat.sub_self,List.set_cons_zero,hs,List.append_assoc];rfl
 have aF:∀ h,rv'.ownBlock=some h->h≠g:=λh e=>by have:=(ho.row.lt h e).1;omega
 refine ⟨(hM.below.n hb).setCell (p:=⟨g,k*2+1,none⟩) hg.1 _,by rw [Ql,hM.len];rfl,?_,?_,?_⟩
 ·rw [<- U,<- Ny _ k _ rv0 rv' T aD]
  exact ((Vb hM.row (Q9 _) (λb _ I=>hb.block b I)).stored (k*2+1) rv').1
 ·intro i x u O Z Y
  by_cases e:i=k
  ·subst e
   rw [Zx (by rw [hM.len];exact Q9 _),hM.len,Nat.sub_self] at Y
   simp at Y;subst Y
   rw [hr] at Z;cases Z
   refine ⟨css,ho.move Ia (λb A h=>Za (λe=>?_))⟩
   have e':b=g:=e
   rcases h with h | h
   ·have h':b<w.heap.size:=h;omega
   exact aF b h e'
  rw [List.getElem?_append_left (by rw [hM.len];omega)] at Y
  obtain ⟨cs,G⟩:=hM.rows i x u Ia Z Y
  have aG:u.ownBlock≠some g:=Yl hM.row G.row Ih rfl
  refine ⟨cs,G.move (Q9 _) (λb A h=>?_)⟩
  have:b≠g:=by
   intro e'
   rcases h with h | h
   ·have h':b<w.heap.size:=h;omega
   exact aG (e' ▸ h)
  rw [Za (λe2=>this e2),hb.block b A]
 intro i j a b h J A h1 h2
 have M:∀ (i:Nat) (a:Value),i<k->rvs[i]?=some a->a.ownBlock=some h->h<wr.heap.size:=by
  intro i a O J hh
  obtain ⟨x,Z⟩:∃ x,l[i]?=some x:=⟨_,Qx Ia⟩
  obtain ⟨cs,G⟩:=hM.rows i x a O Z J
  exact (G.row.lt h hh).2
 have D:∀ (i:Nat) (a:Value),¬ i<k->(rvs++[rv'])[i]?=some a->i=k/\a=rv':=by
  intro i a O J
  rw [Zx (by rw [hM.len];omega),hM.len] at J
  have h0:=(Qj J).1
  simp at h0
  have:i=k:=Ia
  subst this
  simp at J
  exact ⟨rfl,J.symm⟩
 by_cases O:i<k
 ·have N:=J
  rw [List.getElem?_append_left (by rw [hM.len];exact O)] at N
  by_cases G:j<k
  ·rw [List.getElem?_append_left (by rw [hM.len];exact G)] at A
   exact hM.apart i j a b h N A h1 h2
  obtain ⟨rfl,rfl⟩:=D j b G A
  have:=M i a O N h1
  have:=(ho.row.lt h h2).1
  omega
 obtain ⟨rfl,rfl⟩:=D i a O J
 by_cases G:j<i
 ·rw [List.getElem?_append_left (by rw [hM.len];exact G)] at A
  have:=M j b G A h2
  have:=(ho.row.lt h h1).1
  omega
 obtain ⟨rfl,_⟩:=D j b G A
 rfl
theorem E5.done {w wr:World} {g n cap:Nat} {l:List Rel} {css0:List (List Value)} {rvs:List Value} (hM:E5 w g n cap l css0 n rvs wr) (hn:l.length=n) (hc0:css0.length=n) (htl:∀ r ∈ l,r.table.length<=1000000):Ud w wr (.slice (some ⟨g,0,none⟩) n cap) l rvs:=by
 subst hn
 have A:=hM.row
 rw [Zj (Q9 _),Qu Ia,List.append_nil] at A
 refine ⟨hM.len,A,htl,λi r rv hr M=>?_,hM.apart⟩
 obtain ⟨cs,hj⟩:=hM.rows i r rv (Qj hr).1 hr M
 refine ⟨cs,⟨hj.row,hj.cs.move (.refl _ _) (λb hb I=>⟨⟨λe=>?_,λu hu e=>?_⟩,I.2⟩)⟩⟩
 ·have h':b<w.heap.size:=I.1
  have:=(A.lt b e).1
  omega
 have h':b<w.heap.size:=I.1
 obtain ⟨j,G⟩:=Zk hu
 have D:j<l.length:=by rw [<- hM.len];exact (Qj G).1
 obtain ⟨N,J⟩:=hM.rows j _ u D (Qx D) G
 have:=(J.row.lt b e).1
 omega
theorem Um (S0:Nat->Prop) (lv:Value) (l:List Rel) (w:World) (hl0:Sl Yk S0 w lv l):
  Calls prog 50 #[lv] w (Jm w l):=by
 have hl:Sl Yk (λb=>b<w) w lv l:=hl0.mono (λb hb _=>hb)
 have M:=Qq (cloneRel _ lv l w hl)
 obtain ⟨lp,lc,rfl,aX⟩:=hl.len
 clear hl0 hl
 obtain ⟨n,hn⟩:=eX (l.length)
 unfold Jn at M
 rw [hn] at M aX |-
 have G:=Qq hn
 clear hn
 go_enter func50,ntmps50
 go_wp2_with fail
 refine M.o.mono ?_
 rintro e w1 ⟨p,cap,A,rfl,hO,aF⟩
 have I:=Qq hO;have U:=Qq aF
 clear hO aF M
 by_cases hn0:n=0
 ·subst hn0
  go_wp2_with fail
  go_loopw [10] (λi wr=>i=.int .i64 0/\w1=wr) (λ_ _=>0)
  case atStart=>exact ⟨rfl,rfl⟩
  obtain ⟨rfl,rfl⟩:=hrel
  go_wp2_with fail
  go_ret
  have hl0:l=[]:=Zy G.o
  subst hl0
  refine ⟨p,cap,[],rfl,⟨rfl,?_,Ib,λi r rv h=>by simp at h,λi j a b g h=>by simp at h⟩,U.o⟩
  have h1:w1.ownsRow w 70 2 (.slice p 0 cap) 0 A.flatten:=I.o.row
  have h2:A=[]:=Zy I.o.cs.len
  rw [h2] at h1
  exact h1
 obtain ⟨g,bB,hv,bD,bE⟩:=I.o.row.form (by rw [G.o];omega)
 simp only [Qr] at hv
 obtain ⟨rfl,-,rfl⟩:=hv
 go_wp2_with fail
 go_loopw [10] (λi wr=>∃ (k:Nat) (rvs:List Value),k<=n/\i=.int .i64 k/\E5 w g n cap l A k rvs wr) (λi _=>n - (intOf i).toNat)
 case atStart=>
  refine ⟨0,[],Q8 _,rfl,U.o,rfl,?_,λi r rv h=>absurd h (Z6 _),λi j a b h ha=>by simp at ha⟩
  have h1:w1.ownsRow w 70 2 (.slice (some ⟨g,0,none⟩) n cap) l.length A.flatten:=I.o.row
  rw [G.o] at h1
  exact h1
 obtain ⟨k,rvs,bG,rfl,hM⟩:=hrel
 have N:=Qq hM
 clear hM
 by_cases T:k<n
 ·have bF:(0:Int)<=(k:Int):=Ia
  have aU:(k:Int)<(n:Int):=Ia
  obtain ⟨r,hr⟩:∃ r,l[k]?=some r:=⟨_,Qx (by rw [G.o];exact T)⟩
  obtain ⟨c,hc⟩:∃ c,A[k]?=some c:=⟨_,Qx (by rw [I.o.cs.len,G.o];exact T)⟩
  obtain ⟨rv,rfl,aL,aA⟩:=I.o.cs.R k c r hc hr
  obtain ⟨rp,rc,rfl,_⟩:=aA.len
  have aK:(Yc (l.take k) rvs).length=k:=by rw [J1 (by rw [Qm,N.o.len,G.o];omega),Qm,G.o];omega
  have J:∀ c ∈ Yc (l.take k) rvs++A.drop k,c.length=2:=by
   intro c aT
   rcases Z4.1 aT with h | h
   ·exact Ka c h
   exact I.o.cs.all c (Zw h)
  have Y:(Yc (l.take k) rvs++A.drop k)[k]?=some [sv r.table,.slice rp r.rows.length rc]:=by
   rw [Zx Ia,aK,Nat.sub_self,List.getElem?_drop,Nat.add_zero];exact hc
  have l0:=N.o.row.cellAt (k*2) Ia
  have l1:=N.o.row.cellAt (k*2+1) Ia
  rw [show (Yc (l.take k) rvs++A.drop k).flatten[k*2]?=some (sv r.table) from Vg (k:=2) J Y (j:=0) rfl] at l0
  rw [show (Yc (l.take k) rvs++A.drop k).flatten[k*2+1]?=some (.slice rp r.rows.length rc) from Vg (k:=2) J Y (j:=1) rfl] at l1
  unfold sv at l0
  have aJ:Sl Zc (λb=>b<w) w (.slice rp r.rows.length rc) r.rows:=(aA.mono (S':=λb=>b<w) (λb _ hb=>hb.1)).frame (λb hb _=>(U.o.block b hb).symm)
  obtain ⟨aS,HR,HC⟩:=Im aJ hr hc
  have f1:=N.o.row.frozenAt (k*2+1)
  clear hr hc aA aK J Y aJ f1
  go_upto_region 5 with fail
  obtain ⟨W5,O⟩:=eX (wr.alloc (.cells #[r.table,.slice rp r.rows.length rc] 70))
  rw [O]
  have Z:=Iq O (Zg _ _)
  have aE:=Ik (b:=wr.heap.size) O (Qw _ _)
  have x1:=AA aE
  have aB:=Qq Z
  have aC:=Qq (Gp _ _ _ W5 (aS.o.below (N.o.below.n Z)))
  clear O Z aE l0 l1
  go_wp2_with fail
  refine aC.o.mono ?_
  rintro e w6 ⟨p6,c6,bC,rfl,aH,aG⟩
  have V:=aB.o.n aG
  have D:=Vb N.o.row (Q9 _) (λb _ T=>V.block b T)
  have f7:=D.frozenAt (k*2+1)
  have k7:=D.cellAt (k*2+1) Ia
  have aR:=Qq (aH.move (B':=wr.heap.size) aB.o.size (λ_ _ _=>rfl));have aQ:=Qq V
  obtain ⟨u7,aM⟩:∃ u,(Yc (l.take k) rvs++A.drop k).flatten[k*2+1]?=some u:=by
   cases h:(Yc (l.take k) rvs++A.drop k).flatten[k*2+1]? with
   | some u=>exact ⟨u,rfl⟩
   | none=>
    have h2:=List.getElem?_eq_none_iff.1 h
    have:=D.1
    omega
  rw [aM] at k7
  clear aH aG V D aM x1 aC
  go_wp2_with fail
  go_roundw
  case measure=>simp [intOf];omega
  case rel=>exact ⟨k+1,rvs++[.slice p6 r.rows.length c6],Ia,by go_num,N.o.next G.o (by rw [I.o.cs.len];exact G.o) I.o.cs.all HR.o HC.o aQ.o aR.o⟩
 obtain rfl:k=n:=Ia
 have aU:¬ (k:Int)<(k:Int):=Ia
 go_wp2_with fail
 go_ret
 have aL:∀ r ∈ l,r.table.length<=1000000:=by
  intro r hr
  obtain ⟨i,hi⟩:=Zk hr
  have aV:=(Qj hi).1
  obtain ⟨_,_,h,_⟩:=I.o.cs.R i _ r (Qx (by rw [I.o.cs.len];exact aV)) hi
  exact h
 have hd:=N.o.done G.o (by rw [I.o.cs.len];exact G.o) aL
 refine ⟨some ⟨g,0,none⟩,cap,rvs,by rw [G.o];rfl,by rw [G.o];exact hd,N.o.below⟩
def InsIs (S:Nat->Prop) (B:Nat) (w:World) (v:Value) (xs:List Val) (e:Ending) (w':World):Prop:=
 ∃ p cap css,e=.returned (.slice p xs.length cap)/\Own Zc 36 S B w' (.slice p xs.length cap) xs css/\w.grownBy w' v.ownBlock/\((Value.slice p xs.length cap).ownBlock=v.ownBlock\/(Value.slice p xs.length cap).ownBlock=some w.heap.size)
theorem insEnd (S:Nat->Prop) (B:Nat) (w:World) (v:Value) (xs:List Val) (css:List (List Value)) (y:Val) (q:Option Addr) (c:Nat) (hO:Own Zc 36 S B w v xs css) (hY:Sl Zc (But S v) w (.slice q 1 c) [y]) (hl:xs.length<=100000) (hB:B<=w):
  Calls prog 62 #[v,xs.length,.slice q 1 c] w (InsIs S B w v (xs++[y])):=by
 obtain ⟨i0,j1,j2,j3,j4⟩:=Y8 (P:=prog) (t:=36) (z:=.agg zV) (n:=5) (b:=80) Ir
 obtain ⟨HJ,Y,Z,aA⟩:=It j1 j2 j3 j4
 obtain ⟨qb,qo,_,rfl,_,_,_,_,_⟩:=hY.elem (i:=0) (x:=y) rfl
 have M:∀ N A D V,Own Zc 36 S B V (.slice N (xs.length+1) A) (xs++[y]) D->w.grownBy V v.ownBlock->((Value.slice N (xs.length+1) A).ownBlock=v.ownBlock\/(Value.slice N (xs.length+1) A).ownBlock=some w.heap.size)->InsIs S B w v (xs++[y]) (.returned (.slice N (xs.length+1) A)) V:=by
  intro N A D V h1 h2 h3
  refine ⟨N,A,D,by rw [Ql];rfl,by rw [Ql];exact h1,h2,by rw [Ql];exact h3⟩
 rcases hO.row.2 with ⟨rfl,h0⟩ | ⟨g,cap,aT,rfl,aU,_,aJ,aK,aN,_⟩
 ·have aH:xs=[]:=Zy h0
  obtain ⟨HO,HY,HE⟩:=Im hO hY M
  clear hO hY j1 j2 j3 j4 h0 M
  subst aH
  show Calls _ _ #[Ie,Ic,Io qb qo 1 c] _ _
  go_enter func62,ntmps62
  go_wp2_with (at_builtin;refine U1 (r:=Zc) Ih rfl (.tmp 23) (.tmp 24) _ rfl 36 i0 (.agg zV) 80 underlying34 HJ.o Y.o Z.o aA.o rfl Ia S B w (.slice none 0 0) [] css [y] (some ⟨qb,qo,none⟩) 1 c rfl HO.o rfl HY.o rfl Ib Xd (by simp only [List.length_cons,List.length_nil];omega) hB ?_;intro N A D V I J G;obtain ⟨U,T,O⟩:=Im I J G;clear I J G)
  go_ret
  exact HE.o N A D V U.o T.o O.o
 obtain ⟨HO,HY,HE⟩:=Im hO hY M
 clear hO hY j1 j2 j3 j4 aN aK M
 have aI:(xs.length:Int)<=(cap:Int):=Ia
 obtain ⟨n,hn⟩:=eX (xs.length)
 rw [hn] at HO HY hl aJ aI |-
 have HN:=Qq hn
 have aW:xs.length<=100000:=Ia
 clear hn
 have aV:(0:Int)<=(n:Int):=Ia
 by_cases hcn:cap=n
 ·subst hcn
  have aL:(cap:Int)<=(cap:Int):=Ia
  go_enter func62,ntmps62
  go_wp2_with (at_builtin;refine U1 (r:=Zc) Ih rfl (.tmp 23) (.tmp 24) _ rfl 36 i0 (.agg zV) 80 underlying34 HJ.o Y.o Z.o aA.o rfl Ia S B w (.slice (some ⟨g,0,none⟩) cap cap) xs css [y] (some ⟨qb,qo,none⟩) 1 c rfl HO.o rfl HY.o rfl Ib Xd (by simp only [List.length_cons,List.length_nil];omega) hB ?_;intro N A D V I J G;obtain ⟨U,T,O⟩:=Im I J G;clear I J G)
  go_ret
  exact HE.o N A D V U.o T.o O.o
 have aL:(n:Int)<(cap:Int):=Ia
 have hd:cap - n≠0:=Ia
 go_enter func62,ntmps62
 go_wp2_with (at_builtin;refine U1 (r:=Zc) Ih rfl (.tmp 23) (.tmp 24) _ rfl 36 i0 (.agg zV) 80 underlying34 HJ.o Y.o Z.o aA.o rfl Ia S B w (.slice (some ⟨g,0,none⟩) n cap) xs css [y] (some ⟨qb,qo,none⟩) 1 c rfl HO.o rfl HY.o rfl Ib Xd (by simp only [List.length_cons,List.length_nil];omega) hB ?_;intro N A D V I J G;obtain ⟨U,T,O⟩:=Im I J G;clear I J G)
 go_ret
 exact HE.o N A D V U.o T.o O.o
theorem Hg (R:Nat) (S:Nat->Prop) (x:Val) (cx:List Value) (rows:List Val) (w:World) (hcx:∀ j u,cx[j]?=some u->w.cell? ⟨R,j,none⟩=some u) (hRl:R<w) (hx:Z9 S w cx x):
  Uv prog 58 #[Iv R] Zc S rows (λv=>eqv v x) w:=by
 intro W v cs hb hv I
 have D:=hx.move (.f hb) Ij
 have HC:=Qq (λW' (h':Below W W W')=>Gu S v x cs cx W' (Z9.move (show Z9 S W cs v from I) (.f h') Ij) (D.move (.f h') Ij))
 obtain ⟨p3,k3,p4,k4,G,_⟩:=Z9.cells (show Z9 S W cs v from I)
 obtain ⟨q3,l3,q4,l4,A,_⟩:=Z9.cells D
 simp only [Il] at G A
 subst G;subst A
 have d:=λj u hj=>(hb.cell (p:=⟨R,j,none⟩) hRl).trans (hcx j u hj)
 have d0:=d 0 _ rfl
 have d1:=d 1 _ rfl
 have d2:=d 2 _ rfl
 have d3:=d 3 _ rfl
 have d4:=d 4 _ rfl
 have J:R<W.heap.size:=Qv W _ d0
 show Calls prog 58 #[.agg (Is v p3 k3 p4 k4),Iv R] W (λe w'=>e=.returned (.bool (eqv v x))/\Below W W w')
 generalize eqv v x=b at HC |-
 clear d hcx hb hv I hx D
 go_enter func58,ntmps58
 go_wp2_with (go_at_call 53;refine (HC.o _ (Zg _ _)).mono ?_;rintro e w' ⟨rfl,hw⟩)
 go_ret
 exact ⟨rfl,(Zg _ _).n hw⟩
theorem R8 (R:Nat) (S:Nat->Prop) (x:Val) (cx:List Value) (rows:List Val) (w:World) (hcx:∀ j u,cx[j]?=some u->w.cell? ⟨R,j,none⟩=some u) (hRl:R<w) (hx:Z9 S w cx x):
  Uv prog 60 #[Iv R] Zc S rows (λv=>decide (0<Zu v x)) w:=by
 intro W v cs hb hv I
 have D:=hx.move (.f hb) Ij
 have HC:=Qq (λW' (h':Below W W W')=>Gb S v x cs cx W' (Z9.move (show Z9 S W cs v from I) (.f h') Ij) (D.move (.f h') Ij))
 obtain ⟨p3,k3,p4,k4,G,_⟩:=Z9.cells (show Z9 S W cs v from I)
 obtain ⟨q3,l3,q4,l4,A,_⟩:=Z9.cells D
 simp only [Il] at G A
 subst G;subst A
 have d:=λj u hj=>(hb.cell (p:=⟨R,j,none⟩) hRl).trans (hcx j u hj)
 have d0:=d 0 _ rfl
 have d1:=d 1 _ rfl
 have d2:=d 2 _ rfl
 have d3:=d 3 _ rfl
 have d4:=d 4 _ rfl
 have J:R<W.heap.size:=Qv W _ d0
 show Calls prog 60 #[.agg (Is v p3 k3 p4 k4),Iv R] W (λe w'=>e=.returned (.bool (decide (0<Zu v x)))/\Below W W w')
 generalize Zu v x=b at HC |-
 clear d hcx hb hv I hx D
 go_enter func60,ntmps60
 go_wp2_with (go_at_call 61;refine (HC.o _ (Zg _ _)).mono ?_;rintro e w' ⟨rfl,hw⟩)
 go_ret
 exact ⟨rfl,(Zg _ _).n hw.bl⟩
theorem Ur.none {n:Nat} {cf:Nat->Nat->Ft} {nm:Nat->Bs} {f:Ft} (h:Ur n cf nm f) (hz:∀ c i,c<5->i<n->(cf c i).code=0):f=Ft.zero:=by
 rcases h with ⟨h,_⟩ | ⟨c,i,hc,hi,A,_⟩
 ·exact h
 exact absurd (hz c i hc hi) A
theorem Ur.at {n:Nat} {cf:Nat->Nat->Ft} {nm:Nat->Bs} {f:Ft} (h:Ur n cf nm f) (c0 i0:Nat) (hc0:c0<5) (hi0:i0<n) (hne0:(cf c0 i0).code≠0) (hb0:∀ c i,i<n->(c<c0\/c=c0/\i<i0)->(cf c i).code=0):
  f.code=(cf c0 i0).code/\f.table=nm i0:=by
 rcases h with ⟨_,h⟩ | ⟨c,i,hc,hi,A,rfl,hb⟩
 ·exact absurd (h c0 i0 hc0 hi0) hne0
 have h1:¬ (c<c0\/c=c0/\i<i0):=λh=>A (hb0 c i hi h)
 have h2:¬ (c0<c\/c0=c/\i0<i):=λh=>hne0 (hb c0 i0 hi0 h)
 have e1:c=c0:=Ia
 have e2:i=i0:=Ia
 subst e1;subst e2
 exact ⟨rfl,rfl⟩
theorem La {T:Type} {cf:T->T->Int} {xs:List T} (h:xs.Pairwise λx y=>0<=cf y x):Srt cf xs:=by
 intro i j x y A hx hy
 obtain ⟨hi,rfl⟩:=Qj hx
 obtain ⟨hj,rfl⟩:=Qj hy
 exact List.pairwise_iff_getElem.1 h i j hi hj A
def K1 (v:Val):List Int:=match v.kids with
 | x::_=>[x.n]
 | []=>[]
def tyK:Ty->Int | .mk k _ _ _ _=>k
theorem Na (us:List Sm) (x:Val) (y:Ty) (h:tyK y=0\/tyK y=1\/tyK y=2):Fv us x y (x.kind==tyK y):=by
 obtain ⟨k,s,n,names,kids⟩:=y
 exact Am us x k h s n names kids
namespace Law
def tT:Tbl:=⟨[116],[⟨[97],Gen.whole⟩,⟨[98],Gen.whole⟩],[[97]],[⟨[98],[117]⟩],Gen.op [60] [Gen.a,Gen.b]⟩
def uT:Tbl:=⟨[117],[⟨[107],Gen.whole⟩],[[107]],[],Gen.yes⟩
def sc:Sc:=⟨[],[tT,uT]⟩
def rT (x y:Int):Val:=Vf [[97],[98]] [Y5 x,Y5 y]
def rU (x:Int):Val:=Vf [[107]] [Y5 x]
def st (l:List (Int × Int)):List Rel:=[⟨[116],l.map λp=>rT p.1 p.2⟩,⟨[117],[rU 3]⟩]
theorem wordA:Vi [97]:=⟨Ih,Ih,by intro c hc;simp at hc;subst hc;decide,Ih,Ih⟩
theorem wordB:Vi [98]:=⟨Ih,Ih,by intro c hc;simp at hc;subst hc;decide,Ih,Ih⟩
theorem wordK:Vi [107]:=⟨Ih,Ih,by intro c hc;simp at hc;subst hc;decide,Ih,Ih⟩
def Cu (v:Val):Bool:=match v.kids with
 | x::y::_=>decide (Zu x y<0)
 | _=>true
theorem tT_ok (l:List (Int × Int)) (hl:l.length<=1000) (hb:∀ p ∈ l,(-1000<=p.1/\p.1<=1000)/\-1000<=p.2/\p.2<=1000):Rr [] tT (l.map λp=>rT p.1 p.2) (λ_=>true) Cu K1 where
 srt:=La Ih
 few:=Ih
 some:=Ih
 typed:=by
  intro x D
  obtain ⟨p,A,rfl⟩:=List.mem_map.1 D
  refine ⟨.record _ _ rfl ?_ ?_ ?_,?_⟩
  ·intro y J
   simp at J
   rcases J with rfl | rfl
   ·exact wordA
   exact wordB
  ·intro i a b G hb
   match i,G,hb with
   | 0,G,hb=>simp at G hb;subst G;subst hb;decide
   | i+1,G,hb=>simp at hb
  ·intro k hk
   simp at hk
   have hq:=hb p A
   rcases hk with rfl | rfl <;> exact .int _ ⟨Ia,Ia⟩
  have:=Wz [] (rT p.1 p.2) [] [[97],[98]] [Gen.whole,Gen.whole] (λx y=>x.kind==tyK y) (λx _ y J=>Na [] x y (by
   simp at J;subst J;exact .inl rfl))
  exact this
 keys:=λ_=>⟨λr I=>by obtain ⟨p,A,rfl⟩:=List.mem_map.1 I;rfl,λr I x D=>by
  obtain ⟨p,A,rfl⟩:=List.mem_map.1 I
  have:=hb p A
  simp [K1,rT,Vf,Val.kids,Y5,Val.n] at D
  subst D;omega,λr I=>by obtain ⟨p,A,rfl⟩:=List.mem_map.1 I;exact (by decide:1<=3)⟩
 many:=by rw [Z7];omega
 key:=Ih
 check:=by
  intro _ x D
  obtain ⟨p,A,rfl⟩:=List.mem_map.1 D
  refine Rg Ih ?_ (Q9 2)
  exact ev_less 0 [] [] [] Gen.a Gen.b 0 0 _ (Y5 p.1) (Y5 p.2) (Wi [97] 0 [] [] [] [] 0 0 _ _ rfl) (Wi [98] 0 [] [] [] [] 0 0 _ _ rfl)
theorem uT_ok:Rr [] uT [rU 3] (λ_=>true) (λ_=>true) K1 where
 srt:=La Ih
 few:=Ih
 some:=Ih
 typed:=by
  intro x D
  simp at D
  subst D
  refine ⟨.record _ _ rfl ?_ ?_ ?_,?_⟩
  ·intro y G
   simp at G
   subst G
   exact wordK
  ·intro i a b ha hb
   simp at hb
  ·intro k hk
   simp at hk
   subst hk;exact .int _ Ih
  have:=Wz [] (rU 3) [] [[107]] [Gen.whole] (λx y=>x.kind==tyK y) (λx _ y G=>Na [] x y (by
   simp at G;subst G;exact .inl rfl))
  exact this
 keys:=λ_=>⟨λr A=>by simp at A;subst A;rfl,λr A x D=>by
  simp at A;subst A
  simp [K1,rU,Vf,Val.kids,Y5,Val.n] at D
  subst D;omega,λr A=>by simp at A;subst A;decide⟩
 many:=Ih
 key:=Ih
 check:=by
  intro _ x D
  simp at D
  subst D
  refine Rg Ih ?_ Ih
  exact Cz [] 1 [] [] [] [] 0 0 _
def cf (l:List (Int × Int)):Nat->Nat->Ft:=cfOf sc (st l) (λ_ _=>true) (λi=>if i=0 then Cu else λ_=>true) (λ_=>K1)
theorem st_ok (l:List (Int × Int)) (hl:l.length<=1000) (hb:∀ p ∈ l,(-1000<=p.1/\p.1<=1000)/\-1000<=p.2/\p.2<=1000) (i:Nat) (t:Tbl) (r:Rel) (ht:sc.tables[i]?=some t) (hr:(st l)[i]?=some r):
  Rr sc.sums t r.rows ((λ_ _=>true:Nat->Val->Bool) i) ((λi=>if i=0 then Cu else λ_=>true:Nat->Val->Bool) i) ((λ_=>K1:Nat->Val->List Int) i):=by
 match i,ht,hr with
 | 0,ht,hr=>
  cases ht;cases hr
  exact tT_ok l hl hb
 | 1,ht,hr=>
  cases ht;cases hr
  exact uT_ok
 | i+2,ht,hr=>simp [sc] at ht
theorem cf_u (l:List (Int × Int)) (c:Nat) (hc:c<5):(cf l c 1).code=0:=by
 match c,hc with
 | 0,_=>show (G7 [rU 3]).code=0;rw [Nf Ih];rfl
 | 1,_=>show (X9 9 (λ_=>true) [rU 3]).code=0;rw [U2 (λ_ _=>rfl)];rfl
 | 2,_=>
  show (Uy [rU 3] (ust [rU 3].length ([rU 3].map λr=>kb (K1 r)) [rU 3].length)).code=0
  rw [Fw rfl (λi j a b A ha hb=>by
   have h1:=(Qj hb).1
   simp at h1
   omega)]
  rfl
 | 3,_=>rfl
 | 4,_=>show (X9 13 (λ_=>true) [rU 3]).code=0;rw [U2 (λ_ _=>rfl)];rfl
theorem Ac (l:List (Int × Int)) (hl:l.length<=256):(cf l 0 0).code=0:=by
 show (G7 (l.map λp=>rT p.1 p.2)).code=0
 rw [Nf (by rw [Z7];exact hl)];rfl
theorem A9 (l:List (Int × Int)):(cf l 1 0).code=0:=by
 show (X9 9 (λ_=>true) (l.map λp=>rT p.1 p.2)).code=0
 rw [U2 (λ_ _=>rfl)];rfl
theorem kb1_inj {a b:Int} (h:kb [a]=kb [b]):a=b:=by
 unfold kb at h
 simp at h
 exact encI_inj h
theorem cf_t2 (l:List (Int × Int)) (hd:(l.map Prod.fst).Pairwise (·≠·)):(cf l 2 0).code=0:=by
 show (Uy (l.map λp=>rT p.1 p.2) (ust (l.map λp=>rT p.1 p.2).length ((l.map λp=>rT p.1 p.2).map λr=>kb (K1 r)) (l.map λp=>rT p.1 p.2).length)).code=0
 rw [Fw (by rw [Z7]) (λi j a b D A hb=>?_)]
 ·rfl
 rw [List.map_map,List.getElem?_map] at A hb
 cases hx:l[i]? with
 | none=>rw [hx] at A;cases A
 | some x=>
  cases hy:l[j]? with
  | none=>rw [hy] at hb;cases hb
  | some y=>
   rw [hx] at A;rw [hy] at hb
   cases A;cases hb
   intro e
   have e1:x.1=y.1:=kb1_inj e
   obtain ⟨hi,G⟩:=Qj hx
   obtain ⟨hj,I⟩:=Qj hy
   have:=List.pairwise_iff_getElem.1 hd i j (by simpa using hi) (by simpa using hj) D
   simp only [List.getElem_map] at this
   rw [G,I] at this
   exact this e1
theorem cf_t2d (a x y:Int):(cf [(a,x),(a,y)] 2 0).code=11:=by
 show (Uy [rT a x,rT a y] (ust 2 [kb [a],kb [a]] 2)).code=11
 generalize kb [a]=k
 have:ust 2 [k,k] 2=(0,1):=by
  show Vs [k] (Vs [] (2,0) k) k=(0,1)
  have h1:Yn [] k=none:=rfl
  have h2:Yn [k] k=some 0:=by unfold Yn;simp
  unfold Vs
  rw [h1]
  simp only [h2]
  rfl
 rw [this]
 rfl
theorem refT (l:List (Int × Int)) (a y:Int):Dj sc (st l) ⟨[98],[117]⟩ (rT a y)=decide (y=3):=by
 show (Jx sc (st l) [117] [Y5 y]).isSome=_
 have h1:Jx sc (st l) [117] [Y5 y]=atP (lkP [[107]] [Y5 y]) [rU 3]:=rfl
 rw [h1]
 have h2:lkP [[107]] [Y5 y] (rU 3)=decide (y=3):=by
  show Iu eqv [Y5 3] [Y5 y]=_
  simp only [Iu,Bool.and_true]
  unfold eqv
  rw [decide_eq_decide]
  simp [key,Y5]
  exact eq_comm
 unfold atP
 by_cases h:y=3
 ·subst h;simp [h2]
 simp [h2,h]
theorem cf_t3 (l:List (Int × Int)) (h:∀ p ∈ l,p.2=3):(cf l 3 0).code=0:=by
 show (Yf sc (st l) (l.map λp=>rT p.1 p.2) [⟨[98],[117]⟩]).code=0
 have:X9 12 (Dj sc (st l) ⟨[98],[117]⟩) (l.map λp=>rT p.1 p.2)=Ft.zero:=U2 (λx hx=>by
  obtain ⟨p,hp,rfl⟩:=List.mem_map.1 hx
  rw [refT,h p hp];rfl)
 unfold Yf
 rw [this]
 rfl
theorem cf_t3d (a b y:Int) (hy:y≠3):(cf [(a,3),(b,y)] 3 0).code=12:=by
 show (Yf sc (st [(a,3),(b,y)]) [rT a 3,rT b y] [⟨[98],[117]⟩]).code=12
 have:(X9 12 (Dj sc (st [(a,3),(b,y)]) ⟨[98],[117]⟩) [rT a 3,rT b y]).code=12:=by
  unfold X9
  simp [List.findIdx?_cons,refT,hy]
 unfold Yf
 rw [this,if_neg Ih]
 exact this
theorem Ad (x y:Int):Cu (rT x y)=decide (x<y):=by
 show decide (Zu (Y5 x) (Y5 y)<0)=_
 rw [decide_eq_decide]
 simp [Zu,Y5]
 exact Ow
theorem cf_t4 (l:List (Int × Int)) (h:∀ p ∈ l,p.1<p.2):(cf l 4 0).code=0:=by
 show (X9 13 Cu (l.map λp=>rT p.1 p.2)).code=0
 rw [U2 (λx hx=>by
  obtain ⟨p,hp,rfl⟩:=List.mem_map.1 hx
  rw [Ad];exact decide_eq_true (h p hp))]
 rfl
theorem cf_t4d (a b x y:Int) (h1:a<x) (h2:¬ b<y):(cf [(a,x),(b,y)] 4 0).code=13:=by
 show (X9 13 Cu [rT a x,rT b y]).code=13
 unfold X9
 simp [List.findIdx?_cons,Ad,h1,h2]
theorem st_norm (l:List (Int × Int)) (h:Ua (l.map λp=>rT p.1 p.2)=true):U3 sc (st l)=true:=by
 show (Ua (l.map λp=>rT p.1 p.2)&&decide (([116]:Bs)=[116])&&((Ua [rU 3]&&decide (([117]:Bs)=[117]))&&true))=true
 rw [h];rfl
theorem inc1 (a b:Int):Ua ([(a,b)].map λp=>rT p.1 p.2)=true:=rfl
theorem cmp_rT (a b c d:Int):Zu (rT a b) (rT c d)=thn (ord a c) (thn (ord b d) 0):=by
 simp [rT,Vf,Y5,Zu,V8,Ks,Yi,J0,thn]
theorem inc2 (a b c d:Int) (h:a<c\/a=c/\b<d):Ua ([(a,b),(c,d)].map λp=>rT p.1 p.2)=true:=by
 show (decide (Zu (rT a b) (rT c d)<0)&&true)=true
 rw [Bool.and_true,decide_eq_true_eq,cmp_rT]
 rcases h with h | ⟨rfl,h⟩
 ·have:ord a c=-1:=by unfold ord;rw [if_pos h]
  rw [this];show (-1:Int)<0;omega
 rw [J0,Jv]
 have:ord b d=-1:=by unfold ord;rw [if_pos h]
 rw [this];decide
theorem code0 {f:Ft} (h:Ur sc.tables.length (cf [(1,3)]) (λi=>((sc.tables[i]?).getD Tbl.zero).name) f):f.code=0:=by
 rw [h.none (λc i hc hi=>?_)]
 ·rfl
 have A:i<2:=hi
 match i,A with
 | 1,_=>exact cf_u _ c hc
 | 0,_=>
  match c,hc with
  | 0,_=>exact Ac _ Ih
  | 1,_=>exact A9 _
  | 2,_=>exact cf_t2 _ Ih
  | 3,_=>exact cf_t3 _ Ih
  | 4,_=>exact cf_t4 _ Ih
theorem code1 {f:Ft} (h:Ur sc.tables.length (cf [(1,3),(1,4)]) (λi=>((sc.tables[i]?).getD Tbl.zero).name) f):f.code=11:=by
 have h2:=cf_t2d 1 3 4
 rw [(h.at 2 0 Ih Ih (by rw [h2];decide) (λc i hi hb=>?_)).1,h2]
 have A:i<2:=hi
 match i,A with
 | 1,_=>exact cf_u _ c Ia
 | 0,_=>
  match c,hb with
  | 0,_=>exact Ac _ Ih
  | 1,_=>exact A9 _
  | c+2,hb=>omega
theorem code2 {f:Ft} (h:Ur sc.tables.length (cf [(1,3),(2,4)]) (λi=>((sc.tables[i]?).getD Tbl.zero).name) f):f.code=12:=by
 have h2:=cf_t3d 1 2 4 Ih
 rw [(h.at 3 0 Ih Ih (by rw [h2];decide) (λc i hi hb=>?_)).1,h2]
 have A:i<2:=hi
 match i,A with
 | 1,_=>exact cf_u _ c Ia
 | 0,_=>
  match c,hb with
  | 0,_=>exact Ac _ Ih
  | 1,_=>exact A9 _
  | 2,_=>exact cf_t2 _ Ih
  | c+3,hb=>omega
theorem code3 {f:Ft} (h:Ur sc.tables.length (cf [(1,3),(5,3)]) (λi=>((sc.tables[i]?).getD Tbl.zero).name) f):f.code=13:=by
 have h2:=cf_t4d 1 5 3 3 Ih Ih
 rw [(h.at 4 0 Ih Ih (by rw [h2];decide) (λc i hi hb=>?_)).1,h2]
 have A:i<2:=hi
 match i,A with
 | 1,_=>exact cf_u _ c Ia
 | 0,_=>
  match c,hb with
  | 0,_=>exact Ac _ Ih
  | 1,_=>exact A9 _
  | 2,_=>exact cf_t2 _ Ih
  | 3,_=>exact cf_t3 _ Ih
  | c+4,hb=>omega
end Law
end Go.Proofs.YtdpibdpbgokmoaaGreatDoor
