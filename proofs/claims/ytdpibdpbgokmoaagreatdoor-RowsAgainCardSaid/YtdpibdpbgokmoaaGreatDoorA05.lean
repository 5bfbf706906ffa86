import Derived.Test.YtdpibdpbgokmoaaGreatDoorA04
set_option maxRecDepth 100000
set_option maxHeartbeats 400000000
namespace Go.Proofs.YtdpibdpbgokmoaaGreatDoor
open Go.RowKit Go.Shelf Go.Lib Tryz
theorem Ol (a b:Val):(Zu a b==0)=eqv a b:=by rw [<- eqv_cmp];rfl
theorem Gb (S:Nat->Prop) (a b:Val) (ca cb:List Value) (w:World) (ha:Z9 S w ca a) (hb:Z9 S w cb b):
  Calls prog 61 #[ca,cb] w λe w'=>e=.returned (.int .i64 (Zu a b))/\Gr w w':=cmpAt a b S ca cb w ha hb
theorem Gu (S:Nat->Prop) (a b:Val) (ca cb:List Value) (w:World) (ha:Z9 S w ca a) (hb:Z9 S w cb b):
  Calls prog 53 #[ca,cb] w λe w'=>e=.returned (.bool (eqv a b))/\Below w w w':=by
 rw [<- Ol]
 have HC:=Qq (λW (h:Below w w W)=>Gb S a b ca cb W (ha.move (.f h) Ij) (hb.move (.f h) Ij))
 obtain ⟨p3,k3,p4,k4,A,_⟩:=Z9.cells ha
 obtain ⟨q3,l3,q4,l4,D,_⟩:=Z9.cells hb
 simp only [Il] at A D
 subst A;subst D
 clear ha hb
 generalize Zu a b=c at HC |-
 go_enter func53,ntmps53
 go_wp2_with (go_at_call 61;refine (HC.o _ (Zs _ _ _)).mono ?_;rintro e w' ⟨rfl,hw⟩;have HW:=Qq ((Uj w _ _).n hw);clear hw)
 go_ret
 exact ⟨rfl,HW.o.bl⟩
theorem Xl.cells {S:Nat->Prop} {w:World} {cs:List Value} {x:Ty} (h:Xl S w cs x):∃ k s n p3 n3 k3 p4 n4 k4,cs=[.int .i64 k,.string s,.int .i64 n,.slice p3 n3 k3,.slice p4 n4 k4]:=by
 cases h with
 | mk k n s names kids nv p cap b off cs hs hn=>
  obtain ⟨p3,k3,rfl,_⟩:=hn.len
  exact ⟨_,_,_,_,_,_,_,_,_,rfl⟩
theorem row1_any (S:Nat->Prop) (a b:Col) (ca cb:List Value) (w:World) (ha:Xa.R S w ca a) (hb:Xa.R S w cb b):
  Calls prog 78 #[ca,cb] w λe w'=>e=.returned (.int .i64 (Yi a.name b.name))/\Gr w w':=by
 obtain ⟨ta,rfl,_,h1⟩:=ha
 obtain ⟨tb,rfl,_,h2⟩:=hb
 obtain ⟨_,_,_,_,_,_,_,_,_,rfl⟩:=h1.cells
 obtain ⟨_,_,_,_,_,_,_,_,_,rfl⟩:=h2.cells
 have A:=Qq (λW=>Sj ⟨a.name.toArray⟩ ⟨b.name.toArray⟩ W)
 rw [show Yi (bl ⟨a.name.toArray⟩) (bl ⟨b.name.toArray⟩)=Yi a.name b.name from rfl] at A
 generalize Yi a.name b.name=c at A |-
 clear h1 h2
 unfold sv
 go_enter func78,ntmps78
 go_wp2_with (go_at_call 79;refine (A.o _).mono ?_;rintro e w' ⟨rfl,rfl⟩)
 go_ret
 exact ⟨rfl,Uj _ _ _⟩
theorem Gz (S:Nat->Prop) (v:Value) (l:List Bs) (x:Bs) (w:World) (hs:Sl Zh S w v l):
  Calls prog 139 #[v,sv x] w λe w'=>e=.returned (.int .i64 (X8 (λy=>decide (y=x)) l))/\w=w':=by
 obtain ⟨p,cap,rfl,hl⟩:=hs.len
 have HS:=Qq hs
 clear hs
 obtain ⟨n,G⟩:=eX (l.length)
 rw [G] at HS hl;rw [G]
 have HN:=Qq G
 clear G
 unfold sv
 go_enter func139,ntmps139
 go_wp2_with fail
 go_loop [8] (λi=>∃ k:Nat,k<=n/\i=.int .i64 k/\Aside (∀ (j:Nat) (y:Bs),j<k->l[j]?=some y->decide (y=x)=false)) (λi=>n - (intOf i).toNat)
 case atStart=>exact ⟨0,Q8 _,rfl,λj _ hj=>absurd hj (Z6 _)⟩
 obtain ⟨k,hk,rfl,A⟩:=hrel
 by_cases hlt:k<n
 ·have N:(0:Int)<=(k:Int):=Ia
  have O:(k:Int)<(n:Int):=Ia
  obtain ⟨y,D⟩:∃ y,l[k]?=some y:=⟨_,Qx (by rw [HN.o];exact hlt)⟩
  obtain ⟨b,T,rfl,hc,-⟩:=HS.o.str D
  have HY:=Qq D
  clear D
  by_cases he:y=x
  ·have hq:(x==y)=true:=by rw [he];simp
   have I:=Qq he
   clear he
   go_wp2_with fail
   go_ret
   refine ⟨?_,rfl⟩
   rw [Jk HY.o (by rw [I.o];simp) A.o]
   rfl
  have hq:(x==y)=false:=by rw [<- Qt,beq_iff_eq];exact λe=>he e.symm
  have I:=Qq he
  clear he
  go_wp2_with fail
  go_round
  case measure=>simp [intOf];omega
  case rel=>
   refine ⟨k+1,Ia,by go_num,(show Aside _ from λj z hj J=>?_)⟩
   by_cases e:j=k
   ·subst e
    have:=HY.o
    rw [this] at J
    cases J
    simpa using I.o
   exact A.o j z Ia J
 have M:¬ (k:Int)<(n:Int):=Ia
 have:k=n:=Ia
 subst this
 go_wp2_with fail
 go_ret
 refine ⟨?_,rfl⟩
 rw [U9 (λj y D=>A.o j y (by have:=(Qj D).1;have:=HN.o;omega) D)]
 rfl
theorem Ta (S:Nat->Prop) (v:Value) (l:List Bs) (x:Bs) (w:World) (hs:Sl Zh S w v l):
  Calls prog 138 #[v,sv x] w λe w'=>e=.returned (.bool (l.any λy=>decide (y=x)))/\w=w':=by
 rw [<- Dl]
 have A:=Qq (λW=>Gz S v l x W)
 have HS:=Qq hs
 clear hs
 generalize X8 _ l=i at A |-
 unfold sv at A |-
 go_enter func138,ntmps138
 go_wp2_with (go_at_call 139;refine (A.o _ HS.o).mono ?_;rintro e w' ⟨rfl,rfl⟩)
 go_ret
 exact ⟨rfl,rfl⟩
def Xb (v:Val) (i:Int):Bool:=decide (v.kind=4)&&decide (0<=i)&&decide (i<v.kids.length)
def X6 (v:Val) (x:Bs):Int:=X8 (λy=>decide (y=x)) v.names
theorem O9 {k:IntKind} {a b:Int} {c d:Bool} (h:a=b) (h':c=d):Ending.returned (.tuple #[.int k a,.bool c])=.returned (.tuple #[.int k b,.bool d]):=by rw [h,h']
theorem Yz (w:World) (q:Nat):Below w w (w.drewN q):=⟨rfl,rfl,rfl,Q9 _,λ_ _=>rfl⟩
theorem Nc (S:Nat->Prop) (v:Val) (cs:List Value) (x:Bs) (w:World) (h:Z9 S w cs v):
  Calls prog 124 #[cs,sv x] w λe w'=>e=.returned (.tuple #[(X6 v x),.bool (Xb v (X6 v x))])/\Below w w w':=by
 obtain ⟨p3,k3,p4,k4,I,hn,hk,_⟩:=Z9.cells h
 simp only [Il] at I
 subst I
 have G:=Qq (λW (hb:Below w w W)=>Gz S _ v.names x W (hn.below hb))
 rw [show X8 (λy=>decide (y=x)) v.names=X6 v x from rfl] at G
 have hl:v.kids.length<=1000000:=by obtain ⟨_,_,_,h⟩:=hk.len;exact h
 generalize X6 v x=i at G |-
 clear h hn hk
 unfold sv at G |-
 by_cases h4:v.kind=4
 ·have J:(v.kind==4)=true:=by rw [h4];rfl
  by_cases h0:0<=i
  ·by_cases hlt:i<v.kids.length
   ·have A:Xb v i=true:=by unfold Xb;simp [h4,h0,hlt]
    have D:=Qq A
    rw [h4] at *
    clear A J h4
    go_enter func124,ntmps124
    go_wp2_with (go_at_call 139;refine (G.o _ (Zg _ _)).mono ?_;rintro e w' ⟨rfl,rfl⟩)
    go_quiet (fail)
    go_wp2
    go_ret2
    exact ⟨O9 rfl D.o.symm,(Zg _ _).n (Yz _ _)⟩
   have A:Xb v i=false:=by unfold Xb;simp [hlt]
   have D:=Qq A
   have hd:decide (i<v.kids.length)=false:=by simpa using hlt
   rw [h4] at *
   clear A J h4 hlt
   go_enter func124,ntmps124
   go_wp2_with (go_at_call 139;refine (G.o _ (Zg _ _)).mono ?_;rintro e w' ⟨rfl,rfl⟩)
   go_quiet (fail)
   go_wp2
   go_ret2
   exact ⟨O9 rfl D.o.symm,(Zg _ _).n (Yz _ _)⟩
  have A:Xb v i=false:=by unfold Xb;simp [h0]
  have D:=Qq A
  have hd:decide (0<=i)=false:=by simpa using h0
  rw [h4] at *
  clear A J h4 h0
  go_enter func124,ntmps124
  go_wp2_with (go_at_call 139;refine (G.o _ (Zg _ _)).mono ?_;rintro e w' ⟨rfl,rfl⟩)
  go_quiet (fail)
  go_wp2
  go_ret2
  exact ⟨O9 rfl D.o.symm,(Zg _ _).n (Yz _ _)⟩
 have A:Xb v i=false:=by unfold Xb;simp [h4]
 have D:=Qq A
 have J:(v.kind==4)=false:=by simpa using h4
 clear A h4
 go_enter func124,ntmps124
 go_wp2_with (go_at_call 139;refine (G.o _ (Zg _ _)).mono ?_;rintro e w' ⟨rfl,rfl⟩)
 go_quiet (fail)
 go_wp2
 go_ret2
 exact ⟨O9 rfl D.o.symm,(Zg _ _).n (Yz _ _)⟩
theorem F9 {v u:Val} {x:Bs} (h:Yp v x=some u):∃ i:Nat,X6 v x=i/\v.kids[i]?=some u/\Xb v (X6 v x)=true:=by
 unfold Yp at h
 split at h
 ·rename_i h4
  cases hn:Vh v.names x with
  | none=>rw [hn] at h;cases h
  | some i=>
   rw [hn] at h
   have hi:X6 v x=i:=by
    unfold Vh at hn
    unfold X6 X8
    rw [hn]
   have A:=(Qj h).1
   refine ⟨i,hi,h,?_⟩
   rw [hi];unfold Xb
   simp [h4,A]
 cases h
theorem N6 {v:Val} {x:Bs} (h:Yp v x=none):Xb v (X6 v x)=false:=by
 unfold Yp at h
 unfold Xb
 split at h
 ·cases hn:Vh v.names x with
  | none=>
   have A:X6 v x=-1:=by
    unfold Vh at hn
    unfold X6 X8
    rw [hn]
   rw [A];simp
  | some i=>
   rw [hn] at h
   have A:X6 v x=i:=by
    unfold Vh at hn
    unfold X6 X8
    rw [hn]
   rw [List.getElem?_eq_none_iff] at h
   rw [A];simp;intro _;omega
 rename_i h4
 simp [h4]
def Zl (W:World) (R:Nat) (a b c d e:Value):World:=((((W.setCell ⟨R,0,none⟩ a).setCell ⟨R,1,none⟩ b).setCell ⟨R,2,none⟩ c).setCell ⟨R,3,none⟩ d).setCell ⟨R,4,none⟩ e
def AI (_ : World) (_ : Nat) (_ : Val) (_ : Option Addr) (_ : Nat) (_ : Option Addr) (_ : Nat) : AG := ⟨0⟩
instance Qkn_w {W : World} {R : Nat} {v : Val} {p : Option Addr} {a : Nat} {q : Option Addr} {b : Nat} : CoeDep AG (AI W R v p a q b) World := ⟨Zl W R (.int .i64 v.kind) (.int .i64 v.n) (.string ⟨v.s.toArray⟩) (.slice p v.names.length a) (.slice q v.kids.length b)⟩
theorem Yd {W:World} {R:Nat} {a b c d e x0 x1 x2 x3 x4:Value} {t:TypeId} (h:W.heap[R]?=some (.cells #[x0,x1,x2,x3,x4] t (0,0))):(Zl W R a b c d e).heap[R]?=some (.cells #[a,b,c,d,e] t (0,0)):=by
 have A:=Qi _ _ 0 _ _ a h;have A:=Qi _ _ 1 _ _ b A;have A:=Qi _ _ 2 _ _ c A;have A:=Qi _ _ 3 _ _ d A;have A:=Qi _ _ 4 _ _ e A
 simpa [Zl] using A
theorem Ze {W:World} {R:Nat} {a b c d e x0 x1 x2 x3 x4:Value} {t:TypeId} (h:W.heap[R]?=some (.cells #[x0,x1,x2,x3,x4] t (0,0))) (j:Nat):(Zl W R a b c d e).cell? ⟨R,j,none⟩=#[a,b,c,d,e][j]?:=
 Qk _ _ _ _ _ _ (Yd h)
theorem Zf {W:World} {R k:Nat} {a b c d e:Value} (h:k≠R):(Zl W R a b c d e).heap[k]?=W.heap[k]?:=Vj h
theorem Zd {B R:Nat} {w W:World} {a b c d e:Value} (h:Below B w W) (hR:B<=R):Below B w (Zl W R a b c d e):=
 ((((h.setCell (p:=⟨R,0,none⟩) hR _).setCell (p:=⟨R,1,none⟩) hR _).setCell (p:=⟨R,2,none⟩) hR _).setCell (p:=⟨R,3,none⟩) hR _).setCell (p:=⟨R,4,none⟩) hR _
def R2 (w:World) (o:Option Val) (e:Ending) (w':World):Prop:=
 ∃ cs',e=.returned (.tuple #[.agg cs'.toArray,.bool o.isSome])/\Z9 (λb=>w<=b) w' cs' (o.getD Val.zero)/\Below w w w'
theorem Y2 (S:Nat->Prop) (w:World):Z9 S w [Ic,Ic,Ig,Ie,Ie] Val.zero:=
 Yb (s:=[]) Ib (Sl.nil _ _ _) (Sl.nil _ _ _)
theorem F8 (S:Nat->Prop) (v:Val) (cs:List Value) (x:Bs) (w:World) (h:Z9 S w cs v):
  Calls prog 86 #[cs,sv x] w (R2 w (Yp v x)):=by
 have U:=Qq (λW (hb:Below w w W)=>Nc S v cs x W (h.move (.f hb) Ij))
 obtain ⟨p3,k3,p4,k4,G,hn,hk,_⟩:=Z9.cells h
 simp only [Il] at G
 subst G
 have HK:=Qq hk
 clear h hn hk
 unfold sv at U |-
 cases hg:Yp v x with
 | none=>
  rw [N6 hg] at U
  clear hg
  generalize X6 v x=i at U
  go_enter func86,ntmps86
  go_wp2_with (go_at_call 124;refine (U.o _ (Zs _ _ _)).mono ?_;rintro e w' ⟨rfl,I⟩;have HW:=Qq I;have hz:=I.size;obtain ⟨hc,hf⟩:=Lh I;have r0:=λo=>(hf (w+1) o Ib);clear I)
  have Y:=(HW.o.block (w+1) Ib).trans (Q6 _ _ _)
  show bodyPost _ _ _ _ _ (Zl w' _ _ _ _ _ _)
  refine Q7 (v:=.tuple #[.agg zV,.bool false]) (by simp [results,results86,go_sem,Ze Y]) rfl ⟨_,rfl,Y2 _ _,?_⟩
  exact Zd ((Zs w _ _).n HW.o) Ia
 | some u=>
  obtain ⟨i,hi,O,hb⟩:=F9 hg
  rw [hb,hi] at U
  obtain ⟨b,aK,q3,l3,q4,l4,rfl,D,V,d0,d1,d2,d3,d4⟩:=HK.o.val O
  have aI:i<v.kids.length:=(Qj O).1
  have aG:(0:Int)<=(i:Int):=Ia
  have aH:(i:Int)<(v.kids.length:Int):=Ia
  have aD:b<w.heap.size+1:=Ia
  have HV:=Qq V
  clear hg hi O hb V
  go_enter func86,ntmps86
  go_wp2_with fail
  refine (U.o _ (Zs _ _ _)).mono ?_
  rintro e w1 ⟨rfl,I⟩
  have HW:=Qq I
  have A:=(Zs w _ _).n I
  have Y:=(I.block (w+1) Ib).trans (Q6 _ _ _)
  have hX:=(I.block w (by simp;omega)).trans (Q5 _ _ _)
  have e0:=kD A D d0;have e1:=kD A D d1;have e2:=kD A D d2;have e3:=kD A D d3;have e4:=kD A D d4
  have x4:=Iz hX
  have M:=Qq A;have HR:=Qq Y
  clear I A hX Y d0 d1 d2 d3 d4
  go_wp2_with fail
  refine (Bw u _ (Il u q3 l3 q4 l4) _ (Z9.move HV.o (.f M.o) Ij)).mono ?_
  rintro e w2 ⟨aF,rfl,T,N⟩
  obtain ⟨r3,m3,r4,m4,G,_⟩:=Z9.cells T
  simp only [Il] at G
  subst G
  have J:=kB N HR.o
  have f:=λj=>Qn _ _ j _ _ J
  have y:=λj=>Qk _ _ j _ _ _ J
  obtain ⟨y0,y1,y2,y3,y4⟩:=Iw y
  obtain ⟨f0,f1,f2,f3,f4⟩:=Iw f
  simp only [Qf,Qg,Qh] at y0 y1 y2 y3 y4
  obtain ⟨Z,aB,aA⟩:=Im N T J
  clear N T J f y
  go_wp2_with fail
  show bodyPost _ _ _ _ _ (Zl w2 _ _ _ _ _ _)
  refine Q7 (v:=.tuple #[.agg (Is u r3 m3 r4 m4),.bool true]) (by simp [results,results86,go_sem,Ze aA.o]) rfl ⟨_,rfl,?_,Zd (M.o.n Z.o) Ia⟩
  have aJ:=M.o.size
  have aE:=Z8 HR.o
  refine Z9.move aB.o (λb hb _=>Zf ?_) (λb _ hb=>?_)
  ·have:w1.heap.size<=b:=hb
   omega
  have:w1.heap.size<=b:=hb
  show w<=b
  omega
def Srt {T:Type} (cf:T->T->Int) (xs:List T):Prop:=∀ (i j:Nat) (x y:T),i<j->xs[i]?=some x->xs[j]?=some y->0<=cf y x
def CmpOn {T:Type} (P:Program) (g:Nat) (r:Rd T) (S:Nat->Prop) (cf:T->T->Int):Prop:=
 ∀ (W:World) (x y:T) (cx cy:List Value),r.R S W cx x->r.R S W cy y->Calls P g #[cx,cy] W λe w'=>e=.returned (.int .i64 (cf x y))/\Gr W w'
theorem Hj {α:Type} [Inhabited α] (lt:α->α->Bool) (a b:Nat) (d:Array α) (h:∀ j,a<j->j<b->lt d[j]! d[j - 1]! = false):∀ (k i:Nat),b - i<=k->a<i->Sort.insOuter lt a b i d=d:=by
 intro k
 induction k with
 | zero=>intro i hi _;exact insOuter_stop _ _ _ _ _ Ia
 | succ k ih=>
  intro i hi ha
  by_cases hlt:i<b
  ·rw [insOuter_go _ _ _ _ _ hlt,insInner_stop _ _ _ _ (.inr (h i ha hlt))]
   exact ih (i+1) Ia Ia
  exact insOuter_stop _ _ _ _ _ hlt
theorem Hq {α:Type} [Inhabited α] (enc:α->List Value) (k:Nat) (w:World) (g m:Nat) (dk:Array α) (os:Array Obj) (b:Nat) (hb:b<w) (hne:b≠g):(sortWorldK enc k w g 0 m dk os).heap[b]?=w.heap[b]?:=by
 unfold sortWorldK Sort.putRowK Sort.putRow Sort.mapBlock Sort.grow Sort.ahead
 simp only
 rw [Array.getElem?_append_left (by simpa using hb),Array.getElem?_modify,if_neg (λe=>hne e.symm)]
def El {T:Type} (r:Rd T) (S:Nat->Prop) (w:World):Type:={ p:List Value × T // r.R S w p.1 p.2 }
section
variable {P:Program} {ρ:Ren} {T:Type}
theorem Qjn (L:SlLaysF0.n20 P ρ) (r:Rd T) (hk0:0<r.k) (E:TypeId) (aE:∀ w,(isAgg (ρ.t 24)).run P w=.ok true w) (zE:∀ w,(Go.sizeOf (ρ.t 24)).run P w=.ok r.k w) (h1:∀ S w cs x,r.R S w cs x->∀ u ∈ cs,u.oneCell'=true)
  (cf:T->T->Int) (g:Nat) (eg:∀ args w,(callFunc g args).run P w=.ok (.enter g args) w) (S:Nat->Prop) (B:Nat) (w:World) (q cap:Nat) (xs:List T) (css:List (List Value)) (hO:Own r E S B w (.slice (some ⟨q,0,none⟩) xs.length cap) xs css)
  (z:List Value) (zt:T) (hz:r.R (But S (.slice (some ⟨q,0,none⟩) xs.length cap)) w z zt)
  (hc:CmpOn P g r (But S (.slice (some ⟨q,0,none⟩) xs.length cap)) cf) (ho:Srt cf xs) (hl:xs.length<=1000000) (a b:Nat) (hab:a<=b) (hb:b<=xs.length):
  Calls P (ρ.f 20) #[Io q 0 xs.length cap,a,b,.func (.func g) #[] #[]] w λe w'=>e=.returned (.tuple #[])/\Gr w w':=by
 haveI:Inhabited (El r (But S (.slice (some ⟨q,0,none⟩) xs.length cap)) w):=⟨⟨(z,zt),hz⟩⟩
 obtain ⟨l,N,M⟩:=Et xs.length (λi (e:El r (But S (.slice (some ⟨q,0,none⟩) xs.length cap)) w)=>css[i]?=some e.1.1/\xs[i]?=some e.1.2) (λi U=>by
  have h1:=Qx (l:=css) (i:=i) (by rw [hO.cs.len];exact U)
  have O:=Qx U
  exact ⟨⟨(_,_),hO.cs.R i _ _ h1 O⟩,h1,O⟩)
 have D:l.toArray.size=xs.length:=by simpa using N
 have A:∀ i,i<xs.length->css[i]?=some (l.toArray[i]!).1.1/\xs[i]?=some (l.toArray[i]!).1.2:=by
  intro i U
  refine M i _ ?_
  rw [Qx Ia]
  simp [N,U]
 have hq:=(hO.row.lt q rfl).2
 have hH:Sort.HoldsK (λe:El r (But S (.slice (some ⟨q,0,none⟩) xs.length cap)) w=>e.1.1) r.k w q 0 l.toArray:=by
  intro j V
  rw [Sort.size_flatK,D] at V
  have Y:j / r.k<xs.length:=Nat.div_lt_of_lt_mul (by rwa [Nat.mul_comm])
  have hg:=A _ Y
  refine ⟨?_,by rw [Nat.zero_add];exact hO.row.frozenAt j⟩
  rw [Nat.zero_add,hO.row.cellAt j V]
  have I:j % r.k<(l.toArray[j / r.k]!).1.1.length:=by rw [r.len (l.toArray[j / r.k]!).2];exact Nat.mod_lt _ hk0
  have:=Vg hO.cs.all hg.1 (Qx I)
  rw [Nat.div_add_mod' j r.k] at this
  rw [this,Sort.get_flatK _ _ _ _ (by rw [D];exact V),getElem!_pos ((l.toArray[j / r.k]!).1.1) (j % r.k) I]
  rfl
 have J:CmpLays P g #[] (λe:El r (But S (.slice (some ⟨q,0,none⟩) xs.length cap)) w=>e.1.1) r.k (λx y=>cf x.1.2 y.1.2) q 0 l.toArray.size w:=by
  intro m os dk _ x y
  have hA:Jy (But S (.slice (some ⟨q,0,none⟩) xs.length cap)) w (sortWorldK (λe:El r (But S (.slice (some ⟨q,0,none⟩) xs.length cap)) w=>e.1.1) r.k w q 0 m dk os):=λb hb Z=>Hq _ _ _ _ _ _ _ b Z (λe=>hb.2 (by rw [e];rfl))
  exact hc _ x.1.2 y.1.2 _ _ (r.frame x.2 hA) (r.frame y.2 hA)
 have G:=AnyQ.insertionSortCmpFunc (ρ:=ρ) L r.k aE zE (λe:El r (But S (.slice (some ⟨q,0,none⟩) xs.length cap)) w=>e.1.1) (λe=>r.len e.2) (λe=>h1 _ _ _ _ e.2) (λx y=>cf x.1.2 y.1.2) g #[] q 0 cap a b l.toArray w eg J hH hq hab (by rw [D];exact hb) (by rw [D];omega)
 rw [D] at G
 refine G.mono ?_
 rintro e w' ⟨rfl,n,os,rfl⟩
 refine ⟨rfl,?_⟩
 have hs:Sort.insertionSort (ltOf λ(x y:El r (But S (.slice (some ⟨q,0,none⟩) xs.length cap)) w)=>cf x.1.2 y.1.2) l.toArray a b=l.toArray:=by
  refine Hj _ _ _ _ (λj aA aB=>?_) _ _ (Q9 _) Ia
  have O:=(A j Ia).2
  have h3:=(A (j - 1) Ia).2
  have:=ho (j - 1) j _ _ Ia h3 O
  simp only [ltOf,decide_eq_false_iff_not]
  omega
 rw [hs]
 unfold sortWorldK
 rw [Sort.putRowK_self _ _ _ _ _ _ (Sort.holdsK_ahead _ _ _ _ _ _ _ hH)]
 exact ⟨n,os,rfl⟩
end
theorem colZero (S:Nat->Prop) (w:World):Xa.R S w [Ig,Ic,Ig,Ic,Ie,Ie] ⟨[],.mk 0 [] 0 [] []⟩:=
 ⟨_,rfl,Ib,D9 (s:=[]) Ib (Sl.nil _ _ _) (Sl.nil _ _ _)⟩
def Dy (a b:Col):Int:=Yi a.name b.name
theorem row1_on (S:Nat->Prop):CmpOn prog 78 Xa S Dy:=λW x y cx cy hx hy=>row1_any S x y cx cy W hx hy
theorem insCol (S:Nat->Prop) (B:Nat) (w:World) (q cap:Nat) (xs:List Col) (css:List (List Value)) (hO:Own Xa 64 S B w (.slice (some ⟨q,0,none⟩) xs.length cap) xs css)
  (ho:Srt Dy xs) (hl:xs.length<=1000000) (a b:Nat) (hab:a<=b) (hb:b<=xs.length):
  Calls prog 155 #[Io q 0 xs.length cap,a,b,.func (.func 78) #[] #[]] w λe w'=>e=.returned (.tuple #[])/\Gr w w':=
 Qjn Tryz.insCol Xa Ih 64 isAgg64 sizeOf64 Ax Dy 78 (enters_of func78 Ir rfl) S B w q cap xs css hO _ _ (colZero _ _) (row1_on _) ho hl a b hab hb
theorem Qjo (S:Nat->Prop) (B:Nat) (w:World) (q cap:Nat) (xs:List Col) (css:List (List Value)) (hO:Own Xa 64 S B w (.slice (some ⟨q,0,none⟩) xs.length cap) xs css)
  (ho:Srt Dy xs) (hl:xs.length<=19):
  Calls prog 109 #[Io q 0 xs.length cap,xs.length,.func (.func 78) #[] #[]] w λe w'=>e=.returned (.tuple #[])/\Gr w w':=by
 have A:=Qq (insCol S B w q cap xs css hO ho Ia 0 xs.length (Q8 _) (Q9 _))
 clear hO ho
 have h1:(xs.length:Int)<20:=Ia
 generalize xs.length=n at A h1 hl |-
 rw [show ((0:Nat):Int)=0 from rfl] at A
 go_enter func109,ntmps109
 go_wp2_with fail
 go_loop [7,8] (λa b=>a=.int .i64 0/\b=.int .i64 20) (λ_ _=>0)
 case atStart=>exact ⟨rfl,rfl⟩
 obtain ⟨rfl,rfl⟩:=hrel
 go_wp2_with (go_at_call 155;refine A.o.mono ?_;rintro e w' ⟨rfl,hw⟩)
 go_loopw [6] (λs wr=>s=.int .i64 20/\Gr w wr) (λ_ _=>0)
 case atStart=>exact ⟨rfl,hw⟩
 obtain ⟨rfl,hB⟩:=hrel
 have HB:=Qq hB
 clear hB hw
 go_wp2_with fail
 go_end0
 exact ⟨rfl,HB.o⟩
theorem sortCol (S:Nat->Prop) (B:Nat) (w:World) (p:Option Addr) (cap:Nat) (xs:List Col) (css:List (List Value)) (hO:Own Xa 64 S B w (.slice p xs.length cap) xs css)
  (ho:Srt Dy xs) (hl:xs.length<=19) (hne:xs≠[]):
  Calls prog 77 #[.slice p xs.length cap,.func (.func 78) #[] #[]] w λe w'=>e=.returned (.tuple #[])/\Gr w w':=by
 have A:0<xs.length:=List.length_pos_iff.2 hne
 obtain ⟨q,D,hv,_⟩:=hO.row.form A
 simp only [Qr] at hv
 obtain ⟨rfl,-,rfl⟩:=hv
 have HI:=Qq (Qjo S B w q cap xs css hO ho hl)
 clear hO ho hne A
 generalize xs.length=n at HI hl |-
 go_enter func77,ntmps77
 go_wp2_with (go_at_call 109;refine HI.o.mono ?_;rintro e w' ⟨rfl,hw⟩)
 go_end0
 exact ⟨rfl,hw⟩
theorem Yx.cells {S:Nat->Prop} {w:World} {cs:List Value} {x:Ex} (h:Yx S w cs x):∃ k s1 n s2 p1 n1 c1 p2 n2 c2 p3 n3 c3 a z,cs=[.int .i64 k,.string s1,.int .i64 n,.string s2,.slice p1 n1 c1,.slice p2 n2 c2,.slice p3 n3 c3,.int .i64 a,.int .i64 z]:=by
 cases h with
 | mk k nm n s names binds kids a z nv bv p cap b off cs hm hs hn hb=>
  obtain ⟨p1,c1,rfl,_⟩:=hn.len
  obtain ⟨p2,c2,rfl,_⟩:=hb.len
  exact ⟨_,_,_,_,_,_,_,_,_,_,_,_,_,_,_,rfl⟩
def AL (t:Tbl) (cp:Option Addr) (cc:Nat) (kp:Option Addr) (kc:Nat) (rp:Option Addr) (rc:Nat) (k:Int) (s1:ByteArray) (n:Int) (s2:ByteArray) (p1:Option Addr) (n1 c1:Nat) (p2:Option Addr) (n2 c2:Nat) (p3:Option Addr) (n3 c3:Nat) (a z:Int):List Value:=
 [t.name,.slice cp t.columns.length cc,.slice kp t.key.length kc,.slice rp t.refs.length rc,k,.string s1,n,.string s2,.slice p1 n1 c1,.slice p2 n2 c2,.slice p3 n3 c3,a,z]
def AR (_ : Tbl) (_ : Option Addr) (_ : Nat) (_ : Option Addr) (_ : Nat) (_ : Option Addr) (_ : Nat) (_ : Int) (_ : ByteArray) (_ : Int) (_ : ByteArray) (_ : Option Addr) (_ _ : Nat) (_ : Option Addr) (_ _ : Nat) (_ : Option Addr) (_ _ : Nat) (_ _ : Int) : AG := ⟨0⟩
instance Qki_l {x : Tbl} {g : Option Addr} {h : Nat} {i : Option Addr} {j : Nat} {l : Option Addr} {m : Nat} {k : Int} {s : ByteArray} {n : Int} {t : ByteArray} {p : Option Addr} {a b : Nat} {q : Option Addr} {c d : Nat} {r : Option Addr} {e f : Nat} {y z : Int} : CoeDep AG (AR x g h i j l m k s n t p a b q c d r e f y z) (List Value) := ⟨[.string ⟨x.name.toArray⟩, .slice g x.columns.length h, .slice i x.key.length j, .slice l x.refs.length m, .int .i64 k, .string s, .int .i64 n, .string t, .slice p a b, .slice q c d, .slice r e f, .int .i64 y, .int .i64 z]⟩
instance Qki_a {x : Tbl} {g : Option Addr} {h : Nat} {i : Option Addr} {j : Nat} {l : Option Addr} {m : Nat} {k : Int} {s : ByteArray} {n : Int} {t : ByteArray} {p : Option Addr} {a b : Nat} {q : Option Addr} {c d : Nat} {r : Option Addr} {e f : Nat} {y z : Int} : CoeDep AG (AR x g h i j l m k s n t p a b q c d r e f y z) (Array Value) := ⟨#[.string ⟨x.name.toArray⟩, .slice g x.columns.length h, .slice i x.key.length j, .slice l x.refs.length m, .int .i64 k, .string s, .int .i64 n, .string t, .slice p a b, .slice q c d, .slice r e f, .int .i64 y, .int .i64 z]⟩
theorem Yq {S:Nat->Prop} {w:World} {cs:List Value} {t:Tbl} (h:Zn.R S w cs t):∃ cp cc kp kc rp rc k s1 n s2 p1 n1 c1 p2 n2 c2 p3 n3 c3 a z,cs=AL t cp cc kp kc rp rc k s1 n s2 p1 n1 c1 p2 n2 c2 p3 n3 c3 a z/\t.name.length<=1000000 /\
  Sl Xa S w (.slice cp t.columns.length cc) t.columns/\Sl Zh S w (.slice kp t.key.length kc) t.key/\Sl Di S w (.slice rp t.refs.length rc) t.refs/\Yx S w (AW k s1 n s2 p1 n1 c1 p2 n2 c2 p3 n3 c3 a z) t.check:=by
 obtain ⟨cv,kv,rv,ec,rfl,h1,h2,h3,h4,h5⟩:=h
 obtain ⟨cp,cc,rfl,_⟩:=h2.len
 obtain ⟨kp,kc,rfl,_⟩:=h3.len
 obtain ⟨rp,rc,rfl,_⟩:=h4.len
 obtain ⟨k,s1,n,s2,p1,n1,c1,p2,n2,c2,p3,n3,c3,a,z,rfl⟩:=h5.cells
 exact ⟨cp,cc,kp,kc,rp,rc,k,s1,n,s2,p1,n1,c1,p2,n2,c2,p3,n3,c3,a,z,rfl,h1,h2,h3,h4,h5⟩
def Mi (t:Tbl):Ty:=.mk 5 [] 0 (t.columns.map Col.name) (t.columns.map Col.type)
def RowIs (w:World) (t:Tbl) (e:Ending) (w':World):Prop:=∃ cs',e=.returned (.agg cs'.toArray)/\Xl (λ_=>True) w' cs' (Mi t)/\Below w w w'
structure RowMid (w:World) (G:Nat) (cp:Option Addr) (ccap:Nat) (xs:List Col) (k:Nat) (np:Option Addr) (ncap:Nat) (kp:Option Addr) (kcap:Nat) (wr:World):Prop where
 below:Below w w wr
 hG:w+2<=G
 box:wr.heap[G]?=some (.cells #[.int .i64 5,Ig,Ic,.slice np k ncap,.slice kp k kcap] 56 (0,0))
 res:wr.heap[w.heap.size+1]?=some (.cells zY 56 (0,0))
 names:∃ ncs,Own Zh 9 (λb=>b<G/\b≠w+1) (G+1) wr (.slice np k ncap) ((xs.take k).map Col.name) ncs
 kids:∃ kcs,Own Jl 56 (λb=>b<G/\b≠w+1) (G+1) wr (.slice kp k kcap) ((xs.take k).map Col.type) kcs
 cols:Sl Xa (λb=>b<G/\b≠w+1) wr (.slice cp xs.length ccap) xs
theorem row_any (S0:Nat->Prop) (t:Tbl) (cs:List Value) (w:World) (h0:Zn.R S0 w cs t) (ho:Srt Dy t.columns) (hl:t.columns.length<=19) (hne:t.columns≠[]):
  Calls prog 27 #[cs] w (RowIs w t):=by
 have h:Zn.R (λb=>b<w) w cs t:=Zn.mono h0 (λb hb _=>hb)
 obtain ⟨fD,fC,fO,fN,fQ,fP,k0,s1,n0,s2,p1,n1,c1,p2,n2,c2,p3,n3,c3,a0,z0,rfl,bT,aL,_,_,_⟩:=Yq h
 unfold AL
 obtain ⟨HC,HO,dO⟩:=Im aL ho hne
 obtain ⟨i9,j1,j2,j3,j4⟩:=Y8 (P:=prog) (t:=9) (z:=.string ⟨#[]⟩) (n:=1) (b:=16) Ir
 obtain ⟨eL,l1,l2,l3,l4⟩:=Y8 (P:=prog) (t:=56) (z:=.agg zY) (n:=5) (b:=80) Ir
 obtain ⟨HJ,dF,dG,dH,HL,dK,dL,dM⟩:=AV j1 j2 j3 j4 l1 l2 l3 l4
 clear h h0 aL ho hne j1 j2 j3 j4 l1 l2 l3 l4
 go_enter func27,ntmps27
 go_wp2_with fail
 refine (Ry _ _ t.columns _ (HC.o.below (Zs _ _ _))).mono ?_
 rintro e w1 ⟨cp,aE,dX,rfl,cN,aS⟩
 have aM:=(aS.block (w+1) Ib).trans (Q6 _ _ _)
 obtain ⟨dP,dA,bZ⟩:=Im aM ((Zs w _ _).n aS) cN
 have eY:w.heap.size+2<=w1.heap.size:=by have:=aS.size;simpa using this
 clear aM aS cN
 go_wp2_with fail
 refine (sortCol _ _ _ cp aE t.columns dX bZ.o HO.o hl dO.o).mono ?_
 rintro e w2 ⟨rfl,bQ⟩
 have bI:=Qq bQ.bl
 have bA:w.heap.size+2<=w2.heap.size:=Ix bQ.bl.size
 clear bQ
 go_wp2_with fail
 obtain ⟨W3,aR⟩:=eX (w2.alloc (.cells #[.int .i64 5,Ig,Ic,Ie,Ie] 56))
 rw [aR]
 have cI:RowMid w w2 cp aE t.columns 0 none 0 none 0 W3:=by
  have bO:=Iq aR (Zg _ _)
  refine ⟨dA.o.n (bI.o.n bO),bA,by rw [<- aR];exact Qw _ _,?_,⟨[],Own.nil _ _ _ _ _⟩,⟨[],Own.nil _ _ _ _ _⟩,?_⟩
  ·rw [bO.block _ Ia,bI.o.block _ Ia];exact dP.o
  refine (((bZ.o.sl Ia (S':=λb=>b≠w+1) (λb hb=>?_) (λb _ hb=>?_)).below bI.o).mono (S':=λb=>b<w2/\b≠w+1) (λb hb h=>⟨hb,h⟩)).below bO
  ·have h2:w.heap.size+2<=b:=by simpa using hb
   omega
  have h2:b<w.heap.size:=hb
  omega
 have bY:=Qq cI
 clear cI aR
 obtain ⟨n,hn⟩:=eX (t.columns.length)
 rw [hn] at hl |-
 have HN:=Qq hn
 clear hn
 generalize hG:w2.heap.size=G at bY bA |-
 clear hG
 go_loopw [15] (λi wr=>∃ (k:Nat) (np:Option Addr) (I:Nat) (kp:Option Addr) (A:Nat),k<=n/\i=.int .i64 k/\RowMid w G cp aE t.columns k np I kp A wr) (λi _=>n - (intOf i).toNat)
 case atStart=>exact ⟨0,none,0,none,0,Q8 _,rfl,bY.o⟩
 obtain ⟨k,np,I,kp,A,fM,rfl,U⟩:=hrel
 have O:=Qq U
 have fr:=λj=>Qn _ _ j _ _ U.box
 have c0:=AB U.box;have dS:=AA U.box;have dT:=AM U.box;have dV:=AH U.box;have c4:=Iz U.box
 have cH:=Z8 U.box
 by_cases bS:k<n
 ·have fK:(0:Int)<=(k:Int):=Ia
  have fL:(k:Int)<(n:Int):=Ia
  obtain ⟨x,hx⟩:∃ x,t.columns[k]?=some x:=⟨_,Qx (by rw [HN.o];exact bS)⟩
  obtain ⟨cb,eV,cc,rfl,fJ,eW,-,eI,V⟩:=U.cols.elem hx
  obtain ⟨tc,eE,eK,bU⟩:=eI
  obtain ⟨m1,m2,m3,m4,m5,m6,m7,m8,m9,rfl⟩:=bU.cells
  subst eE
  have d0:=V 0 _ rfl;have d1:=V 1 _ rfl;have d2:=V 2 _ rfl;have d3:=V 3 _ rfl;have d4:=V 4 _ rfl;have d5:=V 5 _ rfl
  simp only [show Xa.k=6 from rfl,Nat.add_zero] at d0 d1 d2 d3 d4 d5
  unfold sv at d0
  have HX:=Qq hx;have dQ:=Qq bU
  clear hx V bU c0 dS dT dV c4 fr U
  go_upto_region 7 with fail
  obtain ⟨W4,aI⟩:=eX (wr.alloc (.cells #[x.name,m1,.string m2,m3,.slice m4 m5 m6,.slice m7 m8 m9] 64))
  rw [aI]
  have aJ:=Iq aI (Zg _ _)
  have bB:W4=wr.heap.size+1:=by rw [<- aI];simp
  have bN:=Ik (b:=wr.heap.size) aI (Qw _ _)
  obtain ⟨cO,aH⟩:=O.o.names
  obtain ⟨eN,aG⟩:=O.o.kids
  have bT:((t.columns.take k).map Col.name).length=k:=by rw [Z7,Qm,HN.o];omega
  have cL:((t.columns.take k).map Col.type).length=k:=by rw [Z7,Qm,HN.o];omega
  have aF:=(aJ.block G cH).trans O.o.box
  have c3:=Qk _ _ 3 _ _ _ aF;have c4:=Qk _ _ 4 _ _ _ aF;have f3:=fA 3 aF
  have q0:=Qk _ _ 0 _ _ _ bN
  simp only [Qf,Qg,Qh] at c3 c4 q0
  have aW:=aH.below aJ
  have aU:=aG.below aJ
  obtain ⟨cE,dR,dB,T,cC,eZ,dN,dJ⟩:=AV aJ bN aF bB aW aU bT cL
  clear aI aJ bN aF aH aG aW aU bT cL d0 d1 d2 d3 d4 d5 bB
  go_upto_region 8 with (at_builtin;refine Yo (r:=Zh) Ih rfl (.tmp 20) (.tmp 23) _ rfl 9 i9 (.string ⟨#[]⟩) 16 underlying33 HJ.o dF.o dG.o dH.o rfl Ia (λb=>b<G/\b≠w+1) (G+1) W4 (.slice np k I) ((t.columns.take k).map Col.name) cO [x.name] x.name rfl cC.o rfl ⟨rfl,eK⟩ (by simp [Value.oneCell']) k dN.o Ia (Ix T.o) ?_;intro p5 M aT w5 cJ bL;have cA:=Qq cJ;have aN:=Qq bL;have aO:=(bL.other G (Ix T.o) (λe=>by have:=(cC.o.row.lt G e.symm).1;omega)).trans dB.o;have eA:=fA 3 aO;have dW:=AH aO;have dC:=Qq aO;clear cJ bL aO)
  obtain ⟨W6,Z⟩:=eX (w5.setCell ⟨G,3,none⟩ (.slice p5 (k+1) M))
  rw [Z]
  have Y:∀ b,b≠G->W6.heap[b]?=w5.heap[b]?:=by intro b hb;rw [<- Z];exact Za hb
  have bD:W6.heap.size=w5.heap.size:=by rw [<- Z];simp [World.setCell]
  have aP:W6.heap[G]?=some (.cells #[.int .i64 5,Ig,Ic,.slice p5 (k+1) M,.slice kp k A] 56 (0,0)):=by rw [<- Z,Qi _ _ _ _ _ _ dC.o];rfl
  have aZ:∀ g,(Value.slice np k I).ownBlock=some g->wr.heap.size≠g:=λg hg e=>by
   obtain ⟨_,h⟩:=O.o.names
   have:=(h.row.lt g hg).2
   omega
  have aA:W6.heap[wr.heap.size]?=some (.cells #[x.name,m1,.string m2,m3,.slice m4 m5 m6,.slice m7 m8 m9] 64 (0,0)):=by
   rw [Y _ Ia,aN.o.other _ (Ix T.o) (λe=>aZ _ e.symm rfl)];exact dR.o
  have keep:∀ b,b<wr.heap.size->some b≠(Value.slice np k I).ownBlock->b≠G->W6.heap[b]?=wr.heap[b]?:=λb hb hne bP=>by
   rw [Y b bP,aN.o.other b (Ix T.o) hne];exact cE.o.block b hb
  obtain ⟨_,D⟩:=O.o.names
  obtain ⟨bF,N⟩:=O.o.kids
  have aV:Own Jl 56 (λb=>b<G/\b≠w+1) (G+1) W6 (.slice kp k A) ((t.columns.take k).map Col.type) bF:=N.move (Q9 _) (λb hb h=>by
   rcases h with h | h
   ·exact keep b hb (λe=>by have:=(D.row.lt b e.symm).1;omega) Ia
   exact keep b hb (λe=>Yl N.row D.row Ih h e.symm) (by have:=(N.row.lt b h).1;omega))
  have aX:Own Zh 9 (λb=>b<G/\b≠w+1) (G+1) W6 (.slice p5 (k+1) M) ((t.columns.take k).map Col.name++[x.name]) aT:=cA.o.move (Q9 _) (λb _ h=>Y b (by
   rcases h with h | h
   ·omega
   have:=(cA.o.row.lt b h).1;omega))
  have aY:Jl.R (But (λb=>b<G/\b≠w+1) (.slice kp k A)) W6 [m1,.string m2,m3,.slice m4 m5 m6,.slice m7 m8 m9] x.type:=by
   refine Xl.move dQ.o (λb hb bS=>keep b bS (λe=>by have:=(D.row.lt b e.symm).1;omega) Ia) (λb _ hb=>⟨hb,λe=>?_⟩)
   have:=(N.row.lt b e.symm).1
   omega
  have bC:=aN.o.size
  have g4:=Qk _ _ 4 _ _ _ aP;have eB:=fA 4 aP
  have y1:=Qk _ _ 1 _ _ _ aA;have y2:=Qk _ _ 2 _ _ _ aA;have y3:=Qk _ _ 3 _ _ _ aA;have y4:=Qk _ _ 4 _ _ _ aA;have y5:=Qk _ _ 5 _ _ _ aA
  simp only [Qf,Qg,Qh] at g4 y1 y2 y3 y4 y5
  obtain ⟨dI,J,aC,cD,dD,bK,bJ⟩:=BN keep aV aX aY aP bD bC
  have aK:Below w w W6:=O.o.below.trans (by
   have h1:=cE.o.mono O.o.below.size
   have h2:=(aN.o.below.mono (show w<=G+1 by omega))
   have h3:=(h1.trans h2).setCell (p:=⟨G,3,none⟩) (show w<=G by omega) (.slice p5 (k+1) M)
   rwa [Z] at h3)
  have bH:=Qq aK
  clear Z Y bD aP aZ aA keep D N aV aX aY bC c3 c4 f3 q0 eA dW aK
  go_wp2_with (at_builtin;refine Yo (r:=Jl) Ih rfl (.tmp 27) (.tmp 30) _ rfl 56 eL (.agg zY) 80 underlying54 HL.o dK.o dL.o dM.o rfl Ia (λb=>b<G/\b≠w+1) (G+1) W6 (.slice kp k A) ((t.columns.take k).map Col.type) bF [m1,.string m2,m3,.slice m4 m5 m6,.slice m7 m8 m9] x.type rfl J.o rfl cD.o (by simp [Value.oneCell']) k dJ.o Ia (by have:=bK.o;have:=bJ.o;have:=T.o;omega) ?_;intro p7 aD cF w7 cK bM;have cB:=Qq cK;have bX:=Qq bM;have aQ:=(bM.other G (by have:=bK.o;have:=bJ.o;have:=T.o;omega) (λe=>by have:=(J.o.row.lt G e.symm).1;omega)).trans dD.o;have fE:=fA 4 aQ;have fB:=Iz aQ;have dE:=Qq aQ;clear cK bM aQ)
  go_roundw
  case measure=>simp [intOf];omega
  case rel=>
   have eH:(t.columns.take (k+1)).map Col.name=(t.columns.take k).map Col.name++[x.name]:=by
    obtain ⟨bR,rfl⟩:=Qj HX.o
    rw [Zz bR,List.map_append];rfl
   have eG:(t.columns.take (k+1)).map Col.type=(t.columns.take k).map Col.type++[x.type]:=by
    obtain ⟨bR,rfl⟩:=Qj HX.o
    rw [Zz bR,List.map_append];rfl
   have cG:=O.o.hG
   obtain ⟨_,D⟩:=O.o.names
   have e6:=bK.o
   have e5:=bJ.o
   have e4:=T.o
   have k7:∀ b,b<W6.heap.size->some b≠(Value.slice kp k A).ownBlock->b≠G->(w7.setCell ⟨G,4,none⟩ (.slice p7 (k+1) aD)).heap[b]?=W6.heap[b]?:=λb hb hne bP=>by
    rw [Za bP,bX.o.other b hb hne]
   have bE:∀ b,b<G->(w7.setCell ⟨G,4,none⟩ (.slice p7 (k+1) aD)).heap[b]?=wr.heap[b]?:=λb hb=>by
    rw [k7 b Ia (λe=>by have:=(J.o.row.lt b e.symm).1;omega) Ia,dI.o b Ia (λe=>by have:=(D.row.lt b e.symm).1;omega) Ia]
   refine ⟨k+1,p5,M,p7,aD,Ia,by go_num,⟨(bH.o.trans (bX.o.below.mono Ia)).setCell (p:=⟨G,4,none⟩) (show w<=G by omega) _,cG,?_,?_,⟨aT,?_⟩,⟨cF,?_⟩,?_⟩⟩
   ·rw [Qi _ _ _ _ _ _ dE.o];rfl
   ·rw [bE _ Ia];exact O.o.res
   ·rw [eH]
    refine aC.o.move (Q9 _) (λb hb h=>?_)
    rcases h with h | h
    ·have h':b<G:=h.1
     exact k7 b hb (λe=>by have:=(J.o.row.lt b e.symm).1;omega) Ia
    have h':=(aC.o.row.lt b h).1
    exact k7 b hb (λe=>Yl aC.o.row J.o.row Ih h e.symm) Ia
   ·rw [eG]
    refine cB.o.move (Q9 _) (λb _ h=>Za ?_)
    rcases h with h | h
    ·have h':b<G:=h.1
     show b≠G
     omega
    have h':=(cB.o.row.lt b h).1
    show b≠G
    omega
   exact O.o.cols.frame (λb hb _=>bE b hb.1)
 have cM:k=n:=Ia
 subst cM
 have r0:=Qk _ _ 0 _ _ _ U.res
 have fz:=λj=>Qn _ _ j _ _ U.res
 have rr:=λj=>Qk _ _ j _ _ _ U.res
 obtain ⟨fF,fG,fH,fI,eB⟩:=Iw fz
 obtain ⟨eP,eQ,eR,eS,eT⟩:=Iw rr
 simp only [Qf,Qg,Qh] at eP eQ eR eS eT
 have cG:=U.hG
 clear fr fz rr U r0
 go_wp2_with fail
 show bodyPost _ _ _ _ _ (Zl wr _ _ _ _ _ _)
 refine Q7 (v:=.agg #[.int .i64 5,Ig,Ic,.slice np k I,.slice kp k A]) (by simp [results,results27,go_sem,Ze O.o.res]) rfl ⟨_,rfl,?_,Zd O.o.below Ia⟩
 obtain ⟨cO,aH⟩:=O.o.names
 obtain ⟨eN,aG⟩:=O.o.kids
 rw [Zj (Ix HN.o)] at aH aG
 refine D9 (s:=[]) Ib ?_ ?_
 ·refine ((aH.sl (by rw [Z7];have:=HN.o;omega) (S':=λb=>b≠w+1) (λb hb=>?_) (λb _ hb=>hb.2)).frame (λb hb _=>Zf hb)).mono (λ_ _ _=>trivial)
  omega
 refine ((aG.sl (by rw [Z7];have:=HN.o;omega) (S':=λb=>b≠w+1) (λb hb=>?_) (λb _ hb=>hb.2)).frame (λb hb _=>Zf hb)).mono (λ_ _ _=>trivial)
 omega
end Go.Proofs.YtdpibdpbgokmoaaGreatDoor
