import Derived.Test.YtdpibdpbgokmoaaGreatDoorA32
import Derived.Test.YtdpibdpbgokmoaaGreatDoorA33
set_option maxRecDepth 100000
set_option maxHeartbeats 400000000
namespace Go.Proofs.YtdpibdpbgokmoaaGreatDoor
open Go.RowKit Go.Shelf Go.Lib Tryz
def Dd (us:List Sm):Prop:=∀ u ∈ us,∀ c ∈ u.ctors,K8 c.arg
structure Pq (t:Tbl):Prop where
 key:t.key.length<=1000
 cols:t.columns.length<=1000
 types:∀ c ∈ t.columns,K8 c.type\/c.type.kind=3
 check:Xu 8 t.check
structure Kb (v:Val):Prop where
 good:Y7 v
 few:v.kids.length<=900
theorem Y7.lens {v:Val} (h:Y7 v):v.names.length<=v.kids.length/\(v.kind=4->v.kids.length=v.names.length):=by
 cases h with
 | int n=>exact ⟨Q9 _,λh=>by cases h⟩
 | text s=>exact ⟨Q9 _,λh=>by cases h⟩
 | bool n _=>exact ⟨Q9 _,λh=>by cases h⟩
 | make s kids _ _ _=>exact ⟨Q8 _,λh=>by cases h⟩
 | record names kids hl _ _ _=>exact ⟨Nat.le_of_eq hl,λ_=>hl.symm⟩
 | list kids _=>exact ⟨Q8 _,λh=>by cases h⟩
theorem rhasP (us:List Sm) (hu:Dd us) (v:Val) (t:Ty) (h:K8 t\/t.kind=3):Dp us v t (Ox us v t):=by
 unfold Ox
 split
 ·rename_i h3
  obtain ⟨k,s,n,names,kids⟩:=t
  cases (show k=3 from h3)
  exact rhasSum us v s n names kids hu
 rename_i h3
 exact Mt us v t (h.resolve_right h3)
theorem rhasRow (us:List Sm) (hu:Dd us) (t:Tbl) (hT:Pq t) (v:Val) (hv:Kb v):Dp us v (Ov t) (De us t v):=by
 obtain ⟨h1,h2,h3⟩:=Li _ t.columns rfl
 exact rhasRec us v [] _ _ (Ox us) (by rw [h1,h2]) hv.good.lens.2 (λx _ y hy=>by
  obtain ⟨c,hc,rfl⟩:=h3 y hy
  exact rhasP us hu x c.type (hT.types c hc))
theorem Ou (X:World) (p:Addr):X.drew.cell? p=X.cell? p:=rfl
theorem Zr {W:World} {R b j:Nat} {x0 x1 x2 x3 x4 x5 x6 x7 x8 x9 x10 x11 u:Value} (h:b≠R) (hc:W.cell? ⟨b,j,none⟩=some u):(Y9 W R x0 x1 x2 x3 x4 x5 x6 x7 x8 x9 x10 x11).drew.cell? ⟨b,j,none⟩=some u:=(Ou _ _).trans ((World.cell?_of_block (Xj h)).trans hc)
def L6:Prop:=∀ (S0 S1:Nat->Prop) (s:Sc) (cs:List Value) (lv:Value) (l:List Rel) (w:World),Ve S0 w cs s->Sl Yk S1 w lv l->l.length=s.tables.length->Dd s.sums->(∀ t ∈ s.tables,Pq t)->(∀ r ∈ l,∀ v ∈ r.rows,Kb v) ->
  Calls prog 10 #[cs,lv] w (Jq w s l (cfR s l))
structure Ji (w:World) (g n cap:Nat) (css F:List (List Value)) (k:Nat) (wr:World):Prop where
 gr:w.grownBy wr (some g)
 row:∃ Z:Array Value,wr.heap[g]?=some (.cells Z 36 (0,0))/\Z.size=cap*5/\Z.toList.take (F.length*5)=F.flatten/\∀ m,k*5<=m->m<n*5->Z[m]?=css.flatten[m]?
theorem Fm {w wr w':World} {g:Nat} (h:w.grownBy wr (some g)) (hb:Below wr wr w'):w.grownBy w' (some g):=
 ⟨hb.os.trans h.os,hb.tape.trans h.tape,hb.output.trans h.output,Qc h.size hb.size,λk hk A=>(hb.block k (Qa hk h.size)).trans (h.block k hk A)⟩
theorem Ji.keep {w wr w':World} {g n cap k:Nat} {css F:List (List Value)} (h:Ji w g n cap css F k wr) (hb:Below wr wr w'):Ji w g n cap css F k w':=by
 obtain ⟨Z,h1,h2⟩:=h.row
 exact ⟨Fm h.gr hb,Z,(hb.block g (Z8 h1)).trans h1,h2⟩
theorem Ji.skip {w wr:World} {g n cap k:Nat} {css F:List (List Value)} (h:Ji w g n cap css F k wr):Ji w g n cap css F (k+1) wr:=by
 obtain ⟨Z,h1,h2,h3,h4⟩:=h.row
 exact ⟨h.gr,Z,h1,h2,h3,λm hm hn=>h4 m Ia hn⟩
theorem Ji.put {w wr:World} {g n cap k:Nat} {css F:List (List Value)} {c:List Value} (h:Ji w g n cap css F k wr) (hc:c.length=5) (h1:∀ v ∈ c,v.oneCell'=true) (hF:F.length<k) (hk:k<n) (hn:n<=cap):Ji w g n cap css (F++[c]) (k+1) (wr.setCells g (F.length*5) c):=by
 obtain ⟨Z,hZ,hs,ht,hr⟩:=h.row
 have A:Z.toList.length=cap*5:=by simpa using hs
 rw [O8 wr g (F.length*5) c Z _ hZ Ia h1]
 refine ⟨⟨h.gr.os,h.gr.tape,h.gr.output,by simpa [World.setRow] using h.gr.size,λj hj D=>(setRow_other _ _ _ _ (λe=>D (by rw [e]))).trans (h.gr.block j hj D)⟩,_,setRow_heap _ _ _ _ _ _ hZ,?_,?_,λm hm J=>?_⟩
 ·simp only [List.size_toArray,Ql,Qm,Zq,A,hc];rw [Z0 Ia];omega
 ·have G:(Z.toList.take (F.length*5)).length=F.length*5:=by rw [Qm,A,Z0 Ia]
  have I:(F++[c]).length*5=(Z.toList.take (F.length*5)++c).length:=by rw [Ql,Ql,G,hc];simp;omega
  rw [I,List.toList_toArray,List.take_left,ht,List.flatten_append];simp
 have G:(Z.toList.take (F.length*5)++c).length=F.length*5+5:=by rw [Ql,Qm,A,Z0 Ia,hc]
 rw [<- hr m Ia J,Qf,Zx (by rw [G];omega),G,List.getElem?_drop,hc,show F.length*5+5+(m - (F.length*5+5))=m by omega]
 simp
theorem Nj (p:Val->Bool) {css:List (List Value)} {xs:List Val} (hl:css.length=xs.length):∀ (k:Nat),k<=xs.length->(∀ (j:Nat) (y:Val),j<k->xs[j]?=some y->p y=false)->Ug p css xs k=css.take k
 | 0,_,_=>by simp [Ug]
 | k+1,hk,h=>by
  have hx:=Qx (show k<xs.length by omega)
  have hc:=Qx (l:=css) (i:=k) Ia
  rw [Ku p hc hx,Nj p hl k Ia (λj y hj hy=>h j y Ia hy),h k _ Ia hx,List.take_add_one,hc];rfl
theorem Pr (R:Nat) (S:Nat->Prop) (x:Val) (cx:List Value) (rows:List Val) (w:World) (hcx:∀ j u,cx[j]?=some u->w.cell? ⟨R,j,none⟩=some u) (hRl:R<w) (hx:Z9 S w cx x):
  Uv prog 52 #[Iv R] Zc S rows (λv=>eqv v x) w:=by
 intro W v cs hb hv I
 have D:=hx.move (.f hb) Ij
 have HC:=Qq (λW' (h':Below W W W')=>Gu S v x cs cx W' (Z9.move (show Z9 S W cs v from I) (.f h') Ij) (D.move (.f h') Ij))
 obtain ⟨p3,k3,p4,k4,G,_⟩:=Z9.cells (show Z9 S W cs v from I)
 obtain ⟨q3,l3,q4,l4,A,_⟩:=Z9.cells D
 simp only [Il] at G A
 subst G;subst A
 have d:=λj u hj=>(hb.cell (p:=⟨R,j,none⟩) hRl).trans (hcx j u hj)
 have d0:=d 0 _ rfl
 have d1:=d 1 _ rfl
 have d2:=d 2 _ rfl
 have d3:=d 3 _ rfl
 have d4:=d 4 _ rfl
 have J:R<W.heap.size:=Qv W _ d0
 show Calls prog 52 #[.agg (Is v p3 k3 p4 k4),Iv R] W (λe w'=>e=.returned (.bool (eqv v x))/\Below W W w')
 generalize eqv v x=b at HC |-
 clear d hcx hb hv I hx D
 go_enter func52,ntmps52
 go_wp2_with (go_at_call 53;refine (HC.o _ (Zg _ _)).mono ?_;rintro e w' ⟨rfl,hw⟩)
 go_ret
 exact ⟨rfl,(Zg _ _).n hw⟩
theorem delGen (g0:Nat) (lb:Array Value) (eg:∀ args w,(callFunc g0 args).run prog w=.ok (.enter g0 args) w) (p:Val->Bool) (S:Nat->Prop) (B:Nat) (w:World) (g n cap:Nat) (xs:List Val) (css:List (List Value)) (hO:Own Zc 36 S B w (.slice (some ⟨g,0,none⟩) n cap) xs css) (hn:xs.length=n)
  (hp:∀ (S':Nat->Prop) W y cs,w.grownBy W (some g)->Z9 S' W cs y->Calls prog g0 (#[.agg cs.toArray]++lb) W λe w'=>e=.returned (.bool (p y))/\Below W W w') (hl:n<=100000):
  Calls prog 51 #[Io g 0 n cap,.func (.func g0) #[] lb] w λe w'=>
   ∃ css',e=.returned (.slice (some ⟨g,0,none⟩) (xs.filter (λy=>!p y)).length cap)/\Own Zc 36 S B w' (.slice (some ⟨g,0,none⟩) (xs.filter (λy=>!p y)).length cap) (xs.filter (λy=>!p y)) css'/\w.grownBy w' (some g):=by
 have A:∀ W,Below w w W->w.grownBy W (some g):=λW hb=>⟨hb.os,hb.tape,hb.output,hb.size,λk hk _=>hb.block k hk⟩
 have V:=Qq (Fi Tryz.ixVal Zc isAgg36 sizeOf36 g0 lb eg (λ_=>True) (.slice (some ⟨g,0,none⟩) n cap) xs w p (by rw [<- hn] at hO |-;exact hO.sl Ia (λ_ _=>trivial) (λ_ _ _=>trivial))
  (λW y cs hb _ hv=>hp _ W y cs (A W hb) hv))
 rcases hO.row.2 with ⟨h,_⟩ | ⟨g',cR,bJ,hv,cN,aN,bY,cM,aM,T⟩
 ·cases h
 simp only [Qr,Zv,Addr.mk.injEq] at hv
 obtain ⟨⟨rfl,-,-⟩,-,rfl⟩:=hv
 have aZ:Zc.k=5:=rfl
 rw [aZ] at aM T
 rw [hn] at bY T
 have aX:css.length=n:=by rw [hO.cs.len,hn]
 have HO:=Qq hO;have HN:=Qq hn
 have cI:=Qq hp
 have cF:=Qq A
 by_cases hall:∀ y ∈ xs,p y=false
 ·have M:xs.filter (λy=>!p y)=xs:=List.filter_eq_self.2 (λy hy=>by rw [hall y hy];rfl)
  have aD:X8 p xs=-1:=U9 (λj y hy=>hall y (Qy hy))
  rw [aD] at V
  rw [M,hn]
  clear hp hO hall M aD T aM aN A
  go_enter func51,ntmps51
  go_wp2_with fail
  refine V.o.mono ?_
  rintro e w1 ⟨rfl,aC⟩
  go_wp2_with fail
  go_ret
  exact ⟨css,rfl,HO.o.below aC,cF.o _ aC⟩
 obtain ⟨G,y0,aO,bC,aE⟩:∃ (G:Nat) (y0:Val),xs[G]?=some y0/\p y0=true/\∀ (j:Nat) (y:Val),j<G->xs[j]?=some y->p y=false:=by
  cases hf:xs.findIdx? p with
  | none=>
   exact absurd (λy hy=>by have:=List.findIdx?_eq_none_iff.1 hf y hy;simpa using this) hall
  | some G=>
   obtain ⟨h1,h2,h3⟩:=List.findIdx?_eq_some_iff_getElem.1 hf
   exact ⟨G,_,Qx h1,h2,λj y hj hy=>by
    obtain ⟨h4,rfl⟩:=Qj hy
    have:=h3 j hj
    simpa using this⟩
 have aD:X8 p xs=(G:Int):=Jk aO bC aE
 have dA:G<n:=by rw [<- hn];exact (Qj aO).1
 rw [aD] at V
 have aV:Ug p css xs (G+1)=css.take G:=by
  obtain ⟨c0,cK⟩:∃ c0,css[G]?=some c0:=⟨_,Qx Ia⟩
  rw [Ku _ cK aO,Nj _ Ia G Ia aE,bC];simp
 have aR:(Ug p css xs (G+1)).length=G:=by rw [aV,Qm];omega
 have bM:∀ W,Below w w W->Ji w g n cap css (Ug p css xs (G+1)) (G+1) W:=by
  intro W hb
  refine ⟨A W hb,bJ,(hb.block g (Z8 aN)).trans aN,aM,?_,λm _ hm=>?_⟩
  ·rw [aR,aV]
   have h5:(bJ.toList.take (n*5)).take (G*5)=(css.take G).flatten:=by
    rw [T,<- List.take_append_drop G css,List.flatten_append,Z1 (by rw [V0 (λc hc=>hO.cs.all c (List.mem_of_mem_take hc)),Qm,aZ];omega),Zj (by rw [V0 (λc hc=>hO.cs.all c (List.mem_of_mem_take hc)),Qm,aZ];omega)]
    simp
   rwa [List.take_take,Z0 Ia] at h5
  rw [<- T,List.getElem?_take,if_pos hm];simp
 have bI:=Qq bM
 have bG:=Qq (λ(k:Nat) (hk:k<n)=>(show ∃ c,css[k]?=some c from ⟨_,Qx Ia⟩))
 have dB:((G:Int)==-1)=false:=by rw [beq_eq_false_iff_ne];omega
 have dC:IntKind.i64.wrap ((G:Int)+1)=((G+1:Nat):Int):=by rw [IntKind.wrap_i64];omega
 clear hp hO hall aD T aM aN A bM aV aO bC aE
 go_enter func51,ntmps51
 go_wp2_with fail
 refine V.o.mono ?_
 rintro e w1 ⟨rfl,aC⟩
 have bN:=bI.o w1 aC
 have cH:=Qq bN
 clear bN bI V
 go_wp2_with fail
 go_loopw [5,6,7] (λi j _ wr=>∃ k a:Nat,k<=n/\j=.int .i64 k/\i=.int .i64 a/\a<k/\Aside ((Ug p css xs k).length=a/\Ji w g n cap css (Ug p css xs k) k wr)) (λ_ j _ _=>n - (intOf j).toNat)
 case atStart=>exact ⟨G+1,G,Ia,by go_num,rfl,Ia,aR,cH.o⟩
 obtain ⟨k,a,hk,rfl,rfl,cJ,bL,hM⟩:=hrel
 have Y:=Qq hM
 have J:=Qq bL
 clear hM bL
 by_cases N:k<n
 ·have cY:(0:Int)<=(k:Int):=Ia
  have cZ:(k:Int)<(n:Int):=Ia
  have cT:(0:Int)<=(a:Int):=Ia
  have cU:(a:Int)<(n:Int):=Ia
  obtain ⟨c,hc⟩:=bG.o k N
  obtain ⟨y,hy⟩:∃ y,xs[k]?=some y:=⟨_,Qx (by rw [HN.o];exact N)⟩
  have aF:Z9 (But S (.slice (some ⟨g,0,none⟩) n cap)) wr c y:=Z9.move (show Z9 _ w c y from HO.o.cs.R k c y hc hy) (λb hb N=>Y.o.gr.block b N (λe=>hb.2 (by rw [e];rfl))) Ij
  have cL:c.length=5:=Zc.len aF
  have bK:∀ v ∈ c,v.oneCell'=true:=Xd _ wr c y aF
  obtain ⟨Z,hZ,aB,_,bU⟩:=Y.o.row
  have bZ:∀ j u,c[j]?=some u->wr.cell? ⟨g,k*5+j,none⟩=some u:=by
   intro j u hu
   have hj:=(Qj hu).1
   rw [Qk _ _ _ _ _ _ hZ,bU _ Ia Ia]
   exact Vg HO.o.cs.all hc hu
  obtain ⟨q3,l3,q4,l4,aL,_⟩:=Z9.cells aF
  simp only [Il] at aL
  have I:=Qq (Ku p hc hy)
  have aU:=Qq (λW (hb:Below wr wr W)=>Y.o.keep hb)
  have aQ:=Qq (λW (hb:Below wr wr W)=>(Y.o.keep hb).put cL bK (by rw [J.o];exact cJ) N bY)
  have U:=Qq (λW (hb:Below wr wr W)=>cI.o _ W y c (Fm Y.o.gr hb) (aF.move (.f hb) Ij))
  have aA:=Qq (λW (hb:Below wr wr W) (j:Nat) (hj:j<5)=>(show ∃ u,Ii W g (a*5+j) u/\W.frozen? ⟨g,a*5+j,none⟩=false from by
   have hW:=(hb.block g (Z8 hZ)).trans hZ
   refine ⟨_,(Qk _ _ _ _ _ _ hW).trans (Array.getElem?_eq_getElem (by rw [aB];omega)),Qn _ _ _ _ _ hW⟩))
  have cX:=Z8 hZ
  obtain ⟨z0,z1,z2,z3,z4⟩:=Iw bZ
  rw [aL] at z0 z1 z2 z3 z4
  have z0:=z0 _ rfl;have z1:=z1 _ rfl;have z2:=z2 _ rfl;have z3:=z3 _ rfl;have z4:=z4 _ rfl
  rw [aL] at U aQ I
  rw [Nat.add_zero] at z0
  have bA:g≠wr.heap.size:=Ia
  clear aF bU hZ bZ aL hc hy bK
  obtain ⟨b,bW⟩:=eX (p y)
  simp only [bW] at U I
  clear bW
  go_wp2_with fail
  generalize aW:wr.alloc _=W3
  have aJ:=Iq aW (Zg _ _)
  have bP:=Ik (b:=wr.heap.size) aW (Qw _ _)
  clear aW
  refine (U.o W3 aJ).mono ?_
  rintro e w4 ⟨rfl,aK⟩
  have D:=aJ.n aK
  have bQ:=kB aK bP
  obtain ⟨x0,x1,x2,x3,x4⟩:=If bQ
  obtain ⟨s0,e0,f0⟩:=aA.o w4 D 0 Ia
  obtain ⟨s1,e1,f1⟩:=aA.o w4 D 1 Ia
  obtain ⟨s2,e2,f2⟩:=aA.o w4 D 2 Ia
  obtain ⟨s3,e3,f3⟩:=aA.o w4 D 3 Ia
  obtain ⟨s4,e4,f4⟩:=aA.o w4 D 4 Ia
  rw [Nat.add_zero] at e0 f0
  have aP:=Qq D
  clear aJ bP aK D bQ z0 z1 z2 z3 z4
  have bB:∀ m:Nat,m<=n->IntKind.i64.wrap ((m:Int)+1)=((m+1:Nat):Int):=λm hm=>by rw [IntKind.wrap_i64];omega
  have dD:=bB k Ia;have dE:=bB a Ia
  clear bB
  cases b
  ·go_wp2_with fail
   go_roundw
   case measure=>simp [intOf];omega
   case rel=>
    have O:=I.o
    simp only [Bool.false_eq_true,if_false] at O
    have aS:=aQ.o w4 aP.o
    rw [J.o] at aS
    refine ⟨k+1,a+1,Ia,by go_num,by go_num,Ia,(show Aside _ from ⟨by rw [O,Ql,J.o];rfl,?_⟩)⟩
    rw [O]
    exact aS
  go_wp2_with fail
  go_roundw
  case measure=>simp [intOf];omega
  case rel=>
   have O:=I.o
   simp only [if_true,List.append_nil] at O
   refine ⟨k+1,a,Ia,by go_num,rfl,Ia,(show Aside _ from ⟨by rw [O];exact J.o,?_⟩)⟩
   rw [O]
   exact (aU.o w4 aP.o).skip
 have cS:¬ (k:Int)<(n:Int):=Ia
 have:k=n:=Ia
 subst this
 obtain ⟨Z,hZ,aB,bV,_⟩:=Y.o.row
 have aX:∀ ty,(Builtin.clear_ #[34] ty #[Io g (a*5) (k - a) (cap - a)]).run prog wr=.ok (.tuple #[]) (wr.setRow g (Z.toList.take (a*5)++(Builtin.zeroCells zc5 (k - a)).toList++Z.toList.drop (a*5+(k - a)*5)).toArray):=λty=>Hr wr ty g (a*5) (k - a) (cap - a) Z _ Ia hZ (by rw [aB];omega)
 have aT:∀ X,X=(Z.toList.take (a*5)++(Builtin.zeroCells zc5 (k - a)).toList++Z.toList.drop (a*5+(k - a)*5)).toArray->X.size=cap*5/\X.toList.take (a*5)=(Ug p css xs k).flatten:=by
  intro X hX
  have bT:Z.toList.length=cap*5:=by simpa using aB
  have ht:(Z.toList.take (a*5)).length=a*5:=by rw [Qm,bT,Z0 Ia]
  refine ⟨by rw [hX];simp only [List.size_toArray,Ql,ht,O1,Zq,bT];omega,?_⟩
  rw [hX,List.toList_toArray,List.append_assoc,Z1 (by rw [ht];exact Q9 _),Zj (by rw [ht];exact Q9 _),<- J.o,bV]
 obtain ⟨X,hX⟩:∃ X,X=(Z.toList.take (a*5)++(Builtin.zeroCells zc5 (k - a)).toList++Z.toList.drop (a*5+(k - a)*5)).toArray:=⟨_,rfl⟩
 obtain ⟨bR,bS⟩:=aT X hX
 rw [<- hX] at aX
 have bO:(wr.setRow g X).heap[g]?=some (.cells X 36 (0,0)):=setRow_heap _ _ _ _ _ _ hZ
 have aY:w.grownBy (wr.setRow g X) (some g):=⟨Y.o.gr.os,Y.o.gr.tape,Y.o.gr.output,by simpa [World.setRow] using Y.o.gr.size,λj hj bA=>(setRow_other _ _ _ _ (λe=>bA (by rw [e]))).trans (Y.o.gr.block j hj bA)⟩
 have hC:=Ca p HO.o.cs k
 rw [Zj (by rw [HN.o];exact Q9 _)] at hC
 have hD:Own Zc 36 S B (wr.setRow g X) (.slice (some ⟨g,0,none⟩) a cap) (xs.filter (λy=>!p y)) (Ug p css xs k):=by
  have M:(xs.filter (λy=>!p y)).length=a:=by rw [<- J.o];exact hC.len.symm
  refine ⟨?_,hC.move (λb hb N=>aY.block b N (λe=>hb.2 (by rw [e];rfl))) Ij⟩
  rw [M]
  exact ⟨by rw [V0 (λc hc=>hC.all c hc),J.o],.inr ⟨g,cap,X,rfl,cN,bO,Ia,cM,bR,bS⟩⟩
 have M:(xs.filter (λy=>!p y)).length=a:=by rw [<- J.o];exact hC.len.symm
 have cG:=Qq M
 have HD:=Qq hD;have bH:=Qq aY
 generalize wr.setRow g X=W9 at aX HD bH
 have cV:(0:Int)<=(a:Int):=Ia
 have aC:(a:Int)<=(k:Int):=Ia
 have cW:¬ (cap=a):=Ia
 have aJ:(a:Int)<=(cap:Int):=Ia
 have aK:¬ (cap=0):=Ia
 clear hZ aB bV aT hX bR bS bO aY hC hD M
 go_wp2_with fail
 go_ret
 have hD:=HD.o
 rw [cG.o]
 exact ⟨rfl,⟨_,hD⟩,bH.o⟩
theorem delFn (R:Nat) (S:Nat->Prop) (B:Nat) (x:Val) (cx:List Value) (w:World) (g n cap:Nat) (xs:List Val) (css:List (List Value)) (hO:Own Zc 36 S B w (.slice (some ⟨g,0,none⟩) n cap) xs css) (hn:xs.length=n)
  (hcx:∀ j u,cx[j]?=some u->w.cell? ⟨R,j,none⟩=some u) (hRl:R<w) (hRg:R≠g) (hx:Z9 (But S (.slice (some ⟨g,0,none⟩) n cap)) w cx x) (hl:n<=100000):
  Calls prog 51 #[Io g 0 n cap,.func (.func 52) #[] #[Iv R]] w λe w'=>
   ∃ css',e=.returned (.slice (some ⟨g,0,none⟩) (Kk xs x).length cap)/\Own Zc 36 S B w' (.slice (some ⟨g,0,none⟩) (Kk xs x).length cap) (Kk xs x) css'/\w.grownBy w' (some g):=by
 refine delGen 52 #[Iv R] (enters_of func52 Ir rfl) (λy=>eqv y x) S B w g n cap xs css hO hn (λS' W y cs A hy=>?_) hl
 have hk:∀ j u,cx[j]?=some u->W.cell? ⟨R,j,none⟩=some u:=λj u hu=>(World.cell?_of_block (A.block R hRl (λe=>hRg (Qb e)))).trans (hcx j u hu)
 exact Pr R (λ_=>True) x cx [y] W hk (Qa hRl A.size) ((hx.move (λb hb D=>A.block b D (λe=>hb.2 (by rw [e];rfl))) Ij (w':=W)).move (.refl _ _) (λ_ _ _=>trivial)) W y cs (Qz _ _) Ib (hy.move (.refl _ _) (λ_ _ _=>trivial))
theorem Ap (a b c d e f g h i j k l:Value) (w:World):(Instr.field 38 (.agg #[a,b,c,d,e,f,g,h,i,j,k,l]) 0).run prog w=.ok a w:=by
 simp [Instr.field,go_sem,part,asAgg]
theorem pair_bd {a b:Int} (h:(-1000<=a/\a<=1000)/\-1000<=b/\b<=1000):∀ p ∈ [((1:Int),(3:Int)),(a,b)],(-1000<=p.1/\p.1<=1000)/\-1000<=p.2/\p.2<=1000:=by
 intro p hp
 simp at hp
 rcases hp with rfl | rfl
 ·decide
 exact h
def LvSt (w:World) (l:List (Int × Int)) (e:Ending) (w':World):Prop:=∃ p cap,e=.returned (.slice p 2 cap)/\Sl Yk (λ_=>True) w' (.slice p 2 cap) (Law.st l)/\Below w w w'
def CodeIs (w:World) (q:Int) (e:Ending) (w':World):Prop:=∃ a1 a2 a3 a4 a5 a6 a7 a8 a9 a10 a11:Value,e=.returned (.agg #[q,a1,a2,a3,a4,a5,a6,a7,a8,a9,a10,a11])/\Below w w w'
theorem Ea (S0 S1:Nat->Prop) (cs:List Value) (lv:Value) (l:List (Int × Int)) (q:Int) (w:World) (hs:Ve S0 w cs Law.sc) (hl:Sl Yk S1 w lv (Law.st l)) (hkw:Xs w) (hll:l.length<=1000) (hb:∀ p ∈ l,(-1000<=p.1/\p.1<=1000)/\-1000<=p.2/\p.2<=1000)
  (hi:Ua (l.map λp=>Law.rT p.1 p.2)=true) (hq:∀ f,Ur Law.sc.tables.length (Law.cf l) (λi=>((Law.sc.tables[i]?).getD Tbl.zero).name) f->f.code=q):
  Calls prog 9 #[cs,lv] w (CodeIs w q):=by
 refine (A8 S0 S1 Law.sc cs lv (Law.st l) _ _ _ w hs hl hkw Ih (Law.st_ok l hll hb)).mono ?_
 rintro e w' ⟨f,h1,_,D,rfl,hf,A⟩
 obtain ⟨p3,k3,p4,k4,q3,l3,q4,l4,rfl,_⟩:=Ue hf
 have:=hq f (h1 (Law.st_norm l hi))
 refine ⟨.string ⟨f.table.toArray⟩,.int .i64 f.row.kind,.int .i64 f.row.n,.string ⟨f.row.s.toArray⟩,.slice p3 f.row.names.length k3,.slice p4 f.row.kids.length k4,.int .i64 f.other.kind,.int .i64 f.other.n,.string ⟨f.other.s.toArray⟩,.slice q3 f.other.names.length l3,.slice q4 f.other.kids.length l4,?_,A⟩
 rw [<- this]
 rfl
theorem Qqn (w:World) (hkw:Xs w):Calls prog 11 #[] w λe w'=>e=.returned (.bool true)/\Below w w w':=by
 have mixed:(prog).follows .mixedOrders=true:=Ir
 go_enter func11,ntmps11
 go_upto_region 6 with fail
 obtain ⟨W6,G⟩:=eX ((World.alloc (World.alloc (World.alloc (World.alloc (World.alloc (World.alloc (World.alloc (World.alloc (World.alloc (World.alloc (World.alloc (World.alloc w (.cells zY 56)) (.cells #[.string ⟨#[107]⟩,Ic,Ig,Ic,Ie,Ie] 64)) (.cells #[.string ⟨#[107]⟩] 9)) (.cells #[.string ⟨#[117]⟩,Io (w+1) 0 1 1,Io (w+1+1) 0 1 1,Ie,.int .i64 2,Ig,.int .i64 1,Ig,Ie,Ie,Ie,Ic,Ic] 48)) (.cells #[.int .i64 3,.string ⟨#[97]⟩,Ic,Ig,Ie,Ie,Ie,Ic,Ic,.int .i64 3,.string ⟨#[98]⟩,Ic,Ig,Ie,Ie,Ie,Ic,Ic] 46)) (.cells #[.int .i64 14,.string ⟨#[60]⟩,Ic,Ig,Ie,Ie,Io (w+1+1+1+1) 0 2 2,Ic,Ic] 46)) (.cells #[.string ⟨#[97]⟩,Ic,Ig,Ic,Ie,Ie,.string ⟨#[98]⟩,Ic,Ig,Ic,Ie,Ie] 64)) (.cells #[.string ⟨#[97]⟩] 9)) (.cells #[.string ⟨#[98]⟩,.string ⟨#[117]⟩] 67)) (.cells #[.string ⟨#[116]⟩,Io (w+1+1+1+1+1+1) 0 2 2,Io (w+1+1+1+1+1+1+1) 0 1 1,Io (w+1+1+1+1+1+1+1+1) 0 1 1,.int .i64 14,.string ⟨#[60]⟩,Ic,Ig,Ie,Ie,Io (w+1+1+1+1) 0 2 2,Ic,Ic] 48)) (.cells #[.string ⟨#[116]⟩,Io (w+1+1+1+1+1+1) 0 2 2,Io (w+1+1+1+1+1+1+1) 0 1 1,Io (w+1+1+1+1+1+1+1+1) 0 1 1,.int .i64 14,.string ⟨#[60]⟩,Ic,Ig,Ie,Ie,Io (w+1+1+1+1) 0 2 2,Ic,Ic,.string ⟨#[117]⟩,Io (w+1) 0 1 1,Io (w+1+1) 0 1 1,Ie,.int .i64 2,Ig,.int .i64 1,Ig,Ie,Ie,Ie,Ic,Ic] 48)) (.cells #[Ie,Io (w+1+1+1+1+1+1+1+1+1+1) 0 2 2] 26)))
 have k1:=Ik (b:=w.heap.size+1) G (Zb (Zb (Zb (Zb (Zb (Zb (Zb (Zb (Zb (Zb (Y6 Ib _) _) _) _) _) _) _) _) _) _) _)
 have k2:=Ik (b:=w.heap.size+1+1) G (Zb (Zb (Zb (Zb (Zb (Zb (Zb (Zb (Zb (Y6 Ib _) _) _) _) _) _) _) _) _) _)
 have k4:=Ik (b:=w.heap.size+1+1+1+1) G (Zb (Zb (Zb (Zb (Zb (Zb (Zb (Y6 Ib _) _) _) _) _) _) _) _)
 have k6:=Ik (b:=w.heap.size+1+1+1+1+1+1) G (Zb (Zb (Zb (Zb (Zb (Y6 Ib _) _) _) _) _) _)
 have k7:=Ik (b:=w.heap.size+1+1+1+1+1+1+1) G (Zb (Zb (Zb (Zb (Y6 Ib _) _) _) _) _)
 have k8:=Ik (b:=w.heap.size+1+1+1+1+1+1+1+1) G (Zb (Zb (Zb (Y6 Ib _) _) _) _)
 have bD:=Ik (b:=w.heap.size+1+1+1+1+1+1+1+1+1+1) G (Zb (Y6 Ib _) _)
 have bE:=Ik (b:=w.heap.size+1+1+1+1+1+1+1+1+1+1+1) G (Y6 Ib _)
 have aZ:=Iq G (Yj (Yj (Yj (Yj (Yj (Yj (Yj (Yj (Yj (Yj (Yj (Zg w _) _) _) _) _) _) _) _) _) _) _) _)
 rw [G]
 have bC:Ve (λb=>b<W6) W6 [Ie,Io (w+1+1+1+1+1+1+1+1+1+1) 0 2 2] Law.sc:=by
  refine ⟨_,_,rfl,Sl.nil _ _ _,?_⟩
  refine Y4 (xs:=Law.sc.tables) bD (Z8 bD) ((Cs.one (r:=Zn) (c:=[.string ⟨#[116]⟩,.slice (some ⟨w+1+1+1+1+1+1,0,none⟩) 2 2,.slice (some ⟨w+1+1+1+1+1+1+1,0,none⟩) 1 1,.slice (some ⟨w+1+1+1+1+1+1+1+1,0,none⟩) 1 1,.int .i64 14,.string ⟨#[60]⟩,.int .i64 0,.string ⟨#[]⟩,.slice none 0 0,.slice none 0 0,.slice (some ⟨w+1+1+1+1,0,none⟩) 2 2,.int .i64 0,.int .i64 0]) (x:=Law.tT) ⟨_,_,_,_,rfl,by simp [Law.tT],?_,?_,?_,?_⟩).app (Cs.one (r:=Zn) (c:=[.string ⟨#[117]⟩,.slice (some ⟨w+1,0,none⟩) 1 1,.slice (some ⟨w+1+1,0,none⟩) 1 1,.slice none 0 0,.int .i64 2,.string ⟨#[]⟩,.int .i64 1,.string ⟨#[]⟩,.slice none 0 0,.slice none 0 0,.slice none 0 0,.int .i64 0,.int .i64 0]) (x:=Law.uT) ⟨_,_,_,_,rfl,by simp [Law.uT],?_,?_,Sl.nil _ _ _,O0 _ _ none none none 0 0 0⟩)) rfl rfl (by simp [Law.sc])
  ·exact Y4 (xs:=Law.tT.columns) k6 (Z8 k6) ((Cs.one (r:=Xa) (U0 [97] 0 [] Ib Ib)).app (Cs.one (r:=Xa) (U0 [98] 0 [] Ib Ib))) rfl rfl (by simp [Law.tT])
  ·exact Y4 (xs:=Law.tT.key) k7 (Z8 k7) (Dq [97] Ib) rfl rfl (by simp [Law.tT])
  ·exact Y4 (xs:=Law.tT.refs) k8 (Z8 k8) (Cs.one (r:=Di) (x:=⟨[98],[117]⟩) (c:=[.string ⟨#[98]⟩,.string ⟨#[117]⟩]) ⟨rfl,Ib,Ib⟩) rfl rfl (by simp [Law.tT])
  ·refine Xv (nm:=[60]) (s:=[]) Ib Ib (Sl.nil _ _ _) (Sl.nil _ _ _) ?_
   exact Y4 (xs:=[Gen.a,Gen.b]) k4 (Z8 k4) ((Cs.one (r:=Vz) (x:=Gen.var [97]) (show Yx _ W6 [.int .i64 3,.string ⟨#[97]⟩,Ic,Ig,Ie,Ie,Ie,Ic,Ic] (Gen.var [97]) from Xv (nm:=[97]) (s:=[]) Ib Ib (Sl.nil _ _ _) (Sl.nil _ _ _) (Sl.nil _ _ _))).app (Cs.one (r:=Vz) (x:=Gen.var [98]) (show Yx _ W6 [.int .i64 3,.string ⟨#[98]⟩,Ic,Ig,Ie,Ie,Ie,Ic,Ic] (Gen.var [98]) from Xv (nm:=[98]) (s:=[]) Ib Ib (Sl.nil _ _ _) (Sl.nil _ _ _) (Sl.nil _ _ _)))) rfl rfl Ib
  ·exact Y4 (xs:=Law.uT.columns) k1 (Z8 k1) (Cs.one (r:=Xa) (U0 [107] 0 [] Ib Ib)) rfl rfl (by simp [Law.uT])
  exact Y4 (xs:=Law.uT.key) k2 (Z8 k2) (Dq [107] Ib) rfl rfl (by simp [Law.uT])
 obtain ⟨c0,c1⟩:=AF bE
 obtain ⟨cH,dL,aW,bZ⟩:=It bC aZ bE (hkw.below aZ)
 have bX:Hid (Calls prog 46 #[.agg #[Ie,Io (w+1+1+1+1+1+1+1+1+1+1) 0 2 2]] W6 (Va W6 [⟨[116],[]⟩,⟨[117],[]⟩])):=Qq ((C7 _ Law.sc _ W6 bC Ih Ih).mono (λe w' ⟨p,cap,he,hst,hb⟩=>⟨p,cap,he,hst.sl Ih Ih (λ_=>True) (λ_ _=>trivial) (λ_ _ _=>trivial),hb⟩))
 clear bC aZ G hkw k1 k2 k4 k6 k7 k8 bD bE
 go_wp2_with fail
 refine bX.o.mono ?_
 rintro e w7 ⟨p7,cK,rfl,aO,cQ⟩
 have cI:=Qq aO;have dM:=Qq cQ
 clear aO cQ bX
 go_wp2_with fail
 obtain ⟨W8,aE⟩:=eX ((w7.alloc (.cells #[.string ⟨#[107]⟩] 9)).alloc (.cells #[Ic,.int .i64 3,Ig,Ie,Ie] 36))
 rw [aE]
 have bA:=Iq aE (Zs _ _ _)
 have cY:Z9 (λ_=>True) W8 [.int .i64 4,Ic,Ig,Io w7 0 1 1,Io (w7+1) 0 1 1] (Law.rU 3):=by
  refine Yb (s:=[]) Ib ?_ ?_
  ·exact Y4 (xs:=[[107]]) (show W8.heap[w7.heap.size]?=some _ by rw [<- aE];exact Q5 _ _ _) trivial (Dq [107] Ib) rfl rfl Ib
  exact Y4 (xs:=[Y5 3]) (show W8.heap[w7.heap.size+1]?=some _ by rw [<- aE];exact Q6 _ _ _) trivial (Cs.one (r:=Zc) (Bf _ W8 3)) rfl rfl Ib
 have dN:=Qq (dM.o.n bA)
 have bY:Hid (Calls prog 16 #[.slice p7 2 cK,.string ⟨#[117]⟩,.agg #[.int .i64 4,Ic,Ig,Io w7 0 1 1,Io (w7+1) 0 1 1]] W8 (Va W8 [⟨[116],[]⟩,⟨[117],[Law.rU 3]⟩])):=
  Qq (Da _ _ _ [⟨[116],[]⟩,⟨[117],[]⟩] [117] (Law.rU 3) _ W8 1 ⟨[117],[]⟩ (cI.o.below bA) cY Ih rfl Ib Ib Ib)
 clear bA cY aE
 refine bY.o.mono ?_
 rintro e w9 ⟨p9,cL,rfl,aP,cR⟩
 have cJ:=Qq aP;have N:=Qq (dN.o.n cR)
 have cF:Hid (Calls prog 47 #[.string ⟨#[97]⟩,.int .i64 1,.string ⟨#[98]⟩,.int .i64 3] w9 (Hh w9 (Law.rT 1 3))):=Qq (Gm [97] [98] 1 3 w9 Ib Ib)
 clear aP cR bY
 go_wp2_with fail
 refine cF.o.mono ?_
 rintro e bF ⟨cx,rfl,aI,aF⟩
 obtain ⟨x3,m3,x4,m4,U,_⟩:=Z9.cells aI
 simp only [Il] at U
 subst U
 have bO:=Qq (N.o.n aF)
 have aL:Hid (Calls prog 16 #[.slice p9 2 cL,.string ⟨#[116]⟩,.agg #[.int .i64 4,Ic,Ig,.slice x3 2 m3,.slice x4 2 m4]] bF (LvSt bF [(1,3)])):=
  Qq (Da _ _ _ [⟨[116],[]⟩,⟨[117],[Law.rU 3]⟩] [116] (Law.rT 1 3) _ bF 0 ⟨[116],[]⟩ (cJ.o.below aF) aI Ih rfl Ib Ib Ib)
 clear aI aF cF
 go_wp2_with fail
 refine aL.o.mono ?_
 rintro e bG ⟨dB,aB,rfl,aD,J⟩
 have aA:=Qq aD;have bP:=Qq (bO.o.n J)
 clear aD J aL
 have cC:Hid (Calls prog 47 #[.string ⟨#[97]⟩,.int .i64 1,.string ⟨#[98]⟩,.int .i64 4] bG (Hh bG (Law.rT 1 4))):=Qq (Gm [97] [98] 1 4 bG Ib Ib)
 go_wp2_with fail
 refine cC.o.mono ?_
 rintro e bH ⟨cx,rfl,hx,I⟩
 obtain ⟨y0,m0,z0,n0,U,_⟩:=Z9.cells hx
 obtain rfl:cx=[.int .i64 4,.int .i64 0,.string ⟨#[]⟩,.slice y0 2 m0,.slice z0 2 n0]:=U
 obtain ⟨dS,bQ,cG⟩:=Im hx (bP.o.n I) I
 clear hx I cC
 have cD:Hid (Calls prog 47 #[.string ⟨#[97]⟩,.int .i64 2,.string ⟨#[98]⟩,.int .i64 4] bH (Hh bH (Law.rT 2 4))):=Qq (Gm [97] [98] 2 4 bH Ib Ib)
 go_wp2_with fail
 refine cD.o.mono ?_
 rintro e bI ⟨cx,rfl,hx,I⟩
 obtain ⟨y1,m1,z1,n1,U,_⟩:=Z9.cells hx
 obtain rfl:cx=[.int .i64 4,.int .i64 0,.string ⟨#[]⟩,.slice y1 2 m1,.slice z1 2 n1]:=U
 obtain ⟨dT,bR,aM⟩:=Im hx (bQ.o.n I) I
 clear hx I cD
 have cE:Hid (Calls prog 47 #[.string ⟨#[97]⟩,.int .i64 5,.string ⟨#[98]⟩,.int .i64 3] bI (Hh bI (Law.rT 5 3))):=Qq (Gm [97] [98] 5 3 bI Ib Ib)
 go_wp2_with fail
 refine cE.o.mono ?_
 rintro e V ⟨cx,rfl,hx,I⟩
 obtain ⟨y2,m2,z2,n2,U,_⟩:=Z9.cells hx
 obtain rfl:cx=[.int .i64 4,.int .i64 0,.string ⟨#[]⟩,.slice y2 2 m2,.slice z2 2 n2]:=U
 obtain ⟨dU,bS,Z⟩:=Im hx (bR.o.n I) I
 clear hx I cE
 go_upto_region 10 with fail
 obtain ⟨aJ,T⟩:=eX ((V.alloc (.cells #[.int .i64 4,Ic,Ig,.slice y0 2 m0,.slice z0 2 n0,.int .i64 4,Ic,Ig,.slice y1 2 m1,.slice z1 2 n1,.int .i64 4,Ic,Ig,.slice y2 2 m2,.slice z2 2 n2] 36)).alloc (.cells #[.int .i64 11,.int .i64 12,.int .i64 13] 32))
 have M:=Iq T (Zs _ _ _)
 have aR:=Ik (b:=V.heap.size) T (Q5 _ _ _)
 have aS:=Ik (b:=V.heap.size+1) T (Q6 _ _ _)
 have D:=Qq (bS.o.n M)
 have d0:=kD D.o (Z8 aW.o) c0
 have d1:=kD D.o (Z8 aW.o) c1
 have J:=((cG.o.n aM.o).n Z.o).n M
 have bW:=Qq (Ea _ _ [Ie,Io (w+1+1+1+1+1+1+1+1+1+1) 0 2 2] (.slice dB 2 aB) [(1,3)] 0 aJ (cH.o.below D.o) (aA.o.below J) (bZ.o.below D.o) Ih Ih (Law.inc1 1 3) (λf h=>Law.code0 h))
 obtain ⟨cA,cB,aU⟩:=Im aR aS J
 obtain ⟨dV,dW,dX⟩:=Im (Z9.move (S':=λ_=>True) dS.o (.f ((aM.o.n Z.o).n M)) (λ_ _ _=>trivial)) (Z9.move (S':=λ_=>True) dT.o (.f (Z.o.n M)) (λ_ _ _=>trivial)) (Z9.move (S':=λ_=>True) dU.o (.f M) (λ_ _ _=>trivial))
 rw [T]
 clear M aR aS J T c0 c1
 go_wp2_with fail
 refine bW.o.mono ?_
 rintro e eL ⟨a1,a2,a3,a4,a5,a6,a7,a8,a9,a10,a11,rfl,aQ⟩
 have cU:=λW=>Ap (.int .i64 0) a1 a2 a3 a4 a5 a6 a7 a8 a9 a10 a11 W
 have bT:=Qq aQ
 clear aQ bW
 go_wp2_with fail
 go_loopw [9] (λi wr=>∃ k:Nat,k<=3/\i=.int .i64 k/\Below aJ aJ wr) (λi _=>3 - (intOf i).toNat)
 case atStart=>exact ⟨0,Q8 _,rfl,bT.o⟩
 obtain ⟨k,eJ,rfl,cM⟩:=hrel
 have O:=Qq cM
 clear cM
 by_cases hlt:k<3
 ·have bB:∃ (a b q:Int) (yy:Option Addr) (mm:Nat) (Y:Option Addr) (nn:Nat),(∀ (j:Nat) (u:Value),[.int .i64 4,.int .i64 0,.string ⟨#[]⟩,.slice yy 2 mm,.slice Y 2 nn][j]?=some u->(#[.int .i64 4,.int .i64 0,.string ⟨#[]⟩,.slice y0 2 m0,.slice z0 2 n0,.int .i64 4,.int .i64 0,.string ⟨#[]⟩,.slice y1 2 m1,.slice z1 2 n1,.int .i64 4,.int .i64 0,.string ⟨#[]⟩,.slice y2 2 m2,.slice z2 2 n2]:Array Value)[k*5+j]?=some u)/\(#[.int .i64 11,.int .i64 12,.int .i64 13]:Array Value)[k]?=some (.int .i64 q) /\
    Z9 (λ_=>True) aJ [.int .i64 4,Ic,Ig,.slice yy 2 mm,.slice Y 2 nn] (Law.rT a b)/\eqv (Law.rT 1 3) (Law.rT a b)=false/\decide (0<Zu (Law.rT 1 3) (Law.rT a b))=false/\((-1000<=a/\a<=1000)/\-1000<=b/\b<=1000)/\Ua ([(1,3),(a,b)].map λp=>Law.rT p.1 p.2)=true /\
    ∀ f,Ur Law.sc.tables.length (Law.cf [(1,3),(a,b)]) (λi=>((Law.sc.tables[i]?).getD Tbl.zero).name) f->f.code=q:=by
   match k,hlt with
  | 0,_=>exact ⟨1,4,11,y0,m0,z0,n0,λj u A=>(by
    match j,A with
    | 0,A=>exact A
    | 1,A=>exact A
    | 2,A=>exact A
    | 3,A=>exact A
    | 4,A=>exact A),rfl,dV.o,Ih,Ih,Ih,(Law.inc2 1 3 1 4 Ih),λf h=>Law.code1 h⟩
  | 1,_=>exact ⟨2,4,12,y1,m1,z1,n1,λj u A=>(by
    match j,A with
    | 0,A=>exact A
    | 1,A=>exact A
    | 2,A=>exact A
    | 3,A=>exact A
    | 4,A=>exact A),rfl,dW.o,Ih,Ih,Ih,(Law.inc2 1 3 2 4 Ih),λf h=>Law.code2 h⟩
  | 2,_=>exact ⟨5,3,13,y2,m2,z2,n2,λj u A=>(by
    match j,A with
    | 0,A=>exact A
    | 1,A=>exact A
    | 2,A=>exact A
    | 3,A=>exact A
    | 4,A=>exact A),rfl,dX.o,Ih,Ih,Ih,(Law.inc2 1 3 5 3 Ih),λf h=>Law.code3 h⟩
  obtain ⟨a,b,q,yy,mm,Y,nn,cT,cS,cZ,cX,cV,cP,cW,aG⟩:=bB
  have eH:(0:Int)<=(k:Int):=Ia
  have eI:(k:Int)<3:=Ia
  have hq:(q != q)=false:=Ib
  have hM:=kB O.o cA.o
  have hN:=kB O.o cB.o
  have cO:=D.o.n O.o
  have cN:=kB cO aW.o
  refine let_mvar% ?Lq1:=λw':World=>Ii w' (w+1+1+1+1+1+1+1+1+1+1+1) 0 Ie/\Ii w' (w+1+1+1+1+1+1+1+1+1+1+1) 1 (Io (w+1+1+1+1+1+1+1+1+1+1) 0 2 2)/\BF w' V (k*5) (.int .i64 4) Ic Ig (.slice yy 2 mm) (.slice Y 2 nn) (Ii w' (V+1) k q/\Below wr wr w');?_
  have HS:∀ w',Below wr wr w'->?Lq1 w':=by
   intro w' h
   have hm:=kB h hM
   have hn:=kB h hN
   have hk:=kB h cN
   have e:∀ (j:Nat) (u:Value),[.int .i64 4,.int .i64 0,.string ⟨#[]⟩,.slice yy 2 mm,.slice Y 2 nn][j]?=some u->w'.cell? ⟨V,k*5+j,none⟩=some u:=λj u A=>by rw [Qk _ _ _ _ _ _ hm];exact cT j u A
   exact ⟨by rw [Qk _ _ _ _ _ _ hk];rfl,by rw [Qk _ _ _ _ _ _ hk];rfl,e 0 _ rfl,e 1 _ rfl,e 2 _ rfl,e 3 _ rfl,e 4 _ rfl,by rw [Qk _ _ _ _ _ _ hn];exact cS,h⟩
  have N:∀ w',?Lq1 w'->Below wr wr w':=λw' h=>h.2.2.2.2.2.2.2.2
  have aV:∀ w' aK,?Lq1 w'->Below w' w' aK->?Lq1 aK:=λw' aK h h2=>HS aK ((N w' h).n h2)
  have dQ:=Qq (λW' (h':?Lq1 W')=>(show Calls prog 16 #[.slice dB 2 aB,.string ⟨#[116]⟩,.agg #[.int .i64 4,Ic,Ig,.slice yy 2 mm,.slice Y 2 nn]] W' (LvSt W' [(1,3),(a,b)]) from Da _ _ _ (Law.st [(1,3)]) [116] (Law.rT a b) _ W' 0 ⟨[116],[Law.rT 1 3]⟩ (aA.o.below (aU.o.n (O.o.n (N W' h')))) (Z9.move cZ (.f (O.o.n (N W' h'))) Ij) Ih rfl
   (by intro y hy;simp at hy;subst hy;exact cX) (by intro y hy;simp at hy;subst hy;exact cV) (by intro r hr;simp [Law.st] at hr;rcases hr with rfl | rfl <;> simp)).mono (R':=λe w2=>∃ p cap,e=.returned (.slice p 2 cap)/\Sl Yk (λ_=>True) w2 (.slice p 2 cap) (Law.st [(1,3),(a,b)])/\?Lq1 w2) (by
   rintro e w2 ⟨p,cap,rfl,h3,h4⟩
   exact ⟨p,cap,rfl,h3,aV _ _ h' h4⟩))
  have dO:=Qq (λW' v (h':?Lq1 W') (hsl:Sl Yk (λ_=>True) W' v (Law.st [(1,3),(a,b)]))=>(Ea _ _ [Ie,Io (w+1+1+1+1+1+1+1+1+1+1) 0 2 2] v [(1,3),(a,b)] q W' (cH.o.below (D.o.n (O.o.n (N W' h')))) hsl (bZ.o.below (D.o.n (O.o.n (N W' h')))) Ib (pair_bd cP) cW aG).mono (R':=λe w2=>(∃ a1 a2 a3 a4 a5 a6 a7 a8 a9 a10 a11:Value,e=.returned (.agg #[q,a1,a2,a3,a4,a5,a6,a7,a8,a9,a10,a11]))/\?Lq1 w2) (by
   rintro e w2 ⟨a1,a2,a3,a4,a5,a6,a7,a8,a9,a10,a11,rfl,h4⟩
   exact ⟨⟨a1,a2,a3,a4,a5,a6,a7,a8,a9,a10,a11,rfl⟩,aV _ _ h' h4⟩))
  have dP:=Qq (HS wr.drew (Qz _ _).drew);have bV:=Qq N
  clear HS N aV cT cS cZ cX cV cP cW aG hM hN cO cN cU d0 d1
  go_wp2_with fail
  go_region_held3 ?Lq1 (first | with_reducible exact dP.o | with_reducible exact aC | with_reducible exact aN)
   (first
    | (go_at_call 16;refine (dQ.o _ AN).mono ?_;rintro e eM ⟨eK,dY,rfl,aT,aN⟩)
    | (go_at_call 9;refine (dO.o _ _ AN aT).mono ?_;rintro e eN ⟨⟨a1,a2,a3,a4,a5,a6,a7,a8,a9,a10,a11,rfl⟩,aC⟩;have cU:=λW=>Ap (.int .i64 q) a1 a2 a3 a4 a5 a6 a7 a8 a9 a10 a11 W))
  have bU:=Qq (bV.o _ aC)
  clear aC aN aT
  go_wp2_with fail
  go_roundw
  case measure=>simp [intOf];omega
  case rel=>exact ⟨k+1,Ia,by go_num,O.o.n bU.o⟩
 obtain rfl:k=3:=Ia
 go_wp2_with fail
 go_ret
 exact ⟨rfl,dL.o.n (D.o.n O.o)⟩
end Go.Proofs.YtdpibdpbgokmoaaGreatDoor
