import Derived.Test.YtlanplhphiikjaaGreatDoorF07
set_option maxRecDepth 100000
set_option maxHeartbeats 400000000
namespace Go.Proofs.YtlanplhphiikjaaGreatDoor
open Go.RowKit Go.Shelf Go.Lib Tryz
def J5 (S:Nat->Prop) (w:World) (v:Val) (e:Ending) (w':World):Prop:=∃ cs',e=.returned (.agg cs'.toArray)/\Z5 S w' cs' v/\Below w w w'
def Yb (b:Bool):Val:=.mk 2 (if b then 1 else 0) [] [] []
theorem Xn (S:Nat->Prop) (w:World) (b:Bool):Z5 S w [.int .i64 2,.int .i64 (if b then 1 else 0),Oo,Ot,Ot] (Yb b):=
 Zu (s:=[]) Od (Sl.nil _ _ _) (Sl.nil _ _ _)
theorem Mm (w:World):Calls prog 191 #[.bool true] w fun e w'=>e=.returned (.tuple #[])/\w=w':=by
 go_enter func191,ntmps191
 go_wp2_with fail
 go_end0
 exact ⟨rfl,rfl⟩
theorem Ks (b:Bool) (S:Nat->Prop) (w:World):Calls prog 192 #[.bool b] w (J5 S w (Yb b)):=by
 cases b
 ·go_enter func192,ntmps192
  go_wp2_with fail
  generalize D:w.alloc _=W
  have hb:=eqB D (Zb _ _)
  have G:=eqH (b:=w.heap.size) D (Qw _ _)
  refine Q2 (v:=.agg #[.int .i64 2,On,Oo,Ot,Ot]) (by simp [results,results192,go_sem,Qk _ _ _ _ _ _ G]) rfl ⟨_,rfl,Xn _ _ false,hb⟩
 go_enter func192,ntmps192
 go_wp2_with fail
 generalize D:w.alloc _=W
 have hb:=eqB D (Zb _ _)
 have G:=eqH (b:=w.heap.size) D (Qw _ _)
 refine Q2 (v:=.agg #[.int .i64 2,.int .i64 1,Oo,Ot,Ot]) (by simp [results,results192,go_sem,Qk _ _ _ _ _ _ G]) rfl ⟨_,rfl,Xn _ _ true,hb⟩
theorem of_ok (k:Int) (S:Nat->Prop) (v:Val) (cs:List Value) (w:World) (h:Z5 S w cs v) (hk:v.kind=k):Calls prog 188 #[k,cs] w fun e w'=>e=.returned (.agg cs.toArray)/\Below w w w':=by
 have HM:=Qq Mm
 obtain ⟨p3,k3,p4,k4,D,_⟩:=Z5.cells h
 simp only [vcs] at D
 subst D
 subst hk
 clear h
 go_enter func188,ntmps188
 go_wp2_with (go_at_call 191;refine (HM.out _).mono ?_;rintro e w' ⟨rfl,rfl⟩)
 generalize hW:(w.alloc _).alloc _=W
 have hb:=eqB hW (Zl _ _ _)
 have hR:=eqH (b:=w.heap.size+1) hW (Q1 _ _ _)
 refine Q2 (v:=.agg (Ou v p3 k3 p4 k4)) (by simp [results,results188,go_sem,Qk _ _ _ _ _ _ hR]) rfl ⟨rfl,hb⟩
theorem fld1 (a b c d e:Value) (w:World):(Instr.field 48 (.agg #[a,b,c,d,e]) 1).run prog w=.ok b w:=by
 simp [Instr.field,go_sem,part,asAgg]
theorem truth_ok (b:Bool) (S:Nat->Prop) (cs:List Value) (w:World) (h:Z5 S w cs (Yb b)):Calls prog 124 #[cs] w fun e w'=>e=.returned (.bool b)/\Below w w w':=by
 have G:=Qq (fun W (hb:Below w w W)=>of_ok 2 S (Yb b) cs W (Z5.move h (.of_below hb) P8) rfl)
 obtain ⟨N,L,O,M,D,_⟩:=Z5.cells h
 simp only [vcs] at D
 subst D
 clear h
 have J:(Yb b).kind=2:=rfl
 have hn:((Yb b).n==1)=b:=by cases b <;> rfl
 generalize Yb b=v at J hn G |-
 subst hn
 rw [J] at G |-
 clear J
 have I:Hid (∀ W,Below w w W->Calls prog 188 #[.int .i64 2,.agg #[.int .i64 2,v.n,v.s,.slice N v.names.length L,.slice O v.kids.length M]] W fun e w'=>e=.returned (.agg #[.int .i64 2,v.n,v.s,.slice N v.names.length L,.slice O v.kids.length M])/\Below W W w'):=G
 clear G
 have hf:=fld1 (.int .i64 2) (.int .i64 v.n) (.string ⟨v.s.toArray⟩) (.slice N v.names.length L) (.slice O v.kids.length M)
 go_enter func124,ntmps124
 go_wp2_with (go_at_call 188;refine (I.out _ (Zb _ _)).mono ?_;rintro e w' ⟨rfl,hw⟩)
 go_ret
 exact ⟨rfl,(Zb _ _).thn hw⟩
theorem Sl.int {S:Nat->Prop} {w:World} {p:Option Addr} {n cap:Nat} {xs:List Int} (h:Sl J4 S w (.slice p n cap) xs) {i:Nat} {x:Int} (hx:xs[i]?=some x):
  ∃ b off,p=some ⟨b,off,none⟩/\Oi w b (off+i) x/\True:=by
 obtain ⟨p',c',h1,_,h3⟩:=h
 simp only [Ql] at h1
 obtain ⟨rfl,_,_⟩:=h1
 obtain ⟨b,off,e,_,_,hc⟩:=h3 (by intro e;subst e;simp at hx)
 obtain ⟨cs,h4,h5⟩:=hc i x hx
 refine ⟨b,off,e,?_,trivial⟩
 have:=h4 0 (.int .i64 x) (by rw [h5];rfl)
 rwa [Nat.add_zero,show J4.k=1 from rfl,Nat.mul_one] at this
theorem Ld (S:Nat->Prop) (v:Value) (l:List Int) (x:Int) (w:World) (hs:Sl J4 S w v l):
  Calls prog 236 #[v,x] w fun e w'=>e=.returned (.int .i64 (V5 (fun y=>decide (y=x)) l))/\w=w':=by
 obtain ⟨p,cap,rfl,hl⟩:=hs.len
 have HS:=Qq hs
 clear hs
 obtain ⟨n,G⟩:=eX (l.length)
 rw [G] at HS hl;rw [G]
 have HN:=Qq G
 clear G
 go_enter func236,ntmps236
 go_wp2_with fail
 go_loop [8] (fun i=>∃ k:Nat,k<=n/\i=.int .i64 k/\Aside (∀ (j:Nat) (y:Int),j<k->l[j]?=some y->decide (y=x)=false)) (fun i=>n - (intOf i).toNat)
 case atStart=>exact ⟨0,Q3 _,rfl,fun j _ hj=>absurd hj (Z1 _)⟩
 obtain ⟨k,hk,rfl,A⟩:=hrel
 by_cases hlt:k<n
 ·have N:(0:Int)<=(k:Int):=Oa
  have O:(k:Int)<(n:Int):=Oa
  obtain ⟨y,D⟩:∃ y,l[k]?=some y:=⟨_,Qx (by rw [HN.out];exact hlt)⟩
  obtain ⟨b,T,rfl,hc,-⟩:=HS.out.int D
  have HY:=Qq D
  clear D
  by_cases he:y=x
  ·have hq:(x==y)=true:=by rw [he];simp
   have J:decide (x=y)=true:=by rw [he];simp
   have I:=Qq he
   clear he
   go_wp2_with fail
   go_ret
   refine ⟨?_,rfl⟩
   rw [Js HY.out (by rw [I.out];simp) A.out]
   rfl
  have hq:(x==y)=false:=by rw [<- Qn,beq_iff_eq];exact fun e=>he e.symm
  have J:decide (x=y)=false:=by simpa using fun e=>he e.symm
  have I:=Qq he
  clear he
  go_wp2_with fail
  go_round
  case measure=>simp [intOf];omega
  case rel=>
   refine ⟨k+1,Oa,by go_num,(show Aside _ from fun j z hj L=>?_)⟩
   by_cases e:j=k
   ·subst e
    have:=HY.out
    rw [this] at L
    cases L
    simpa using I.out
   exact A.out j z Oa L
 have M:¬ (k:Int)<(n:Int):=Oa
 have:k=n:=Oa
 subst this
 go_wp2_with fail
 go_ret
 refine ⟨?_,rfl⟩
 rw [J0 (fun j y D=>A.out j y (by have:=(Qj D).1;have:=HN.out;omega) D)]
 rfl
theorem Lv (S:Nat->Prop) (v:Value) (l:List Int) (x:Int) (w:World) (hs:Sl J4 S w v l):
  Calls prog 185 #[v,x] w fun e w'=>e=.returned (.bool (l.any fun y=>decide (y=x)))/\w=w':=by
 rw [<- Kp]
 have HI:=Qq (fun W=>Ld S v l x W)
 have HS:=Qq hs
 clear hs
 generalize V5 _ l=i at HI |-
 go_enter func185,ntmps185
 go_wp2_with (go_at_call 236;refine (HI.out _ HS.out).mono ?_;rintro e w' ⟨rfl,rfl⟩)
 go_ret
 exact ⟨rfl,rfl⟩
def B1 (e:Ex):Prop:=∀ (S:Nat->Prop) (cs:List Value) (w:World),Yj S w cs e ->
 Calls prog 122 #[cs] w fun r w'=>r=.returned (.bool (Uz e))/\Below w w w'
theorem Nx (S:Nat->Prop) (kids:List Ex) (ih:∀ x ∈ kids,B1 x) (w:World):Xo prog 187 #[] Vv S kids (fun e=>!Uz e) w:=by
 intro W x cs hb hx G
 have HI:=Qq (fun W' (h':Below W W W')=>ih x hx S cs W' (Vv.frame G (.of_below h')))
 obtain ⟨k,s1,n,s2,p1,n1,c1,p2,n2,c2,p3,n3,c3,a,z,D⟩:=Yj.cells (show Yj S W cs x from G)
 subst D
 show Calls prog 187 #[.agg (Pq k s1 n s2 p1 n1 c1 p2 n2 c2 p3 n3 c3 a z)] W (fun e w'=>e=.returned (.bool (!Uz x))/\Below W W w')
 generalize Uz x=b at HI |-
 clear hb hx G ih
 go_enter func187,ntmps187
 go_wp2_with (go_at_call 122;refine (HI.out _ (Zb _ _)).mono ?_;rintro e w' ⟨rfl,hw⟩)
 go_ret
 exact ⟨rfl,(Zb _ _).thn hw⟩
theorem sl_ints4 (w:World) (a b c d:Int) (g:Nat) (E:TypeId) (h:w.heap[g]?=some (.cells #[a,b,c,d] E (0,0))):Sl J4 (fun _=>True) w (.slice (some ⟨g,0,none⟩) 4 4) [a,b,c,d]:=by
 refine Sl.of_css (r:=J4) (xs:=[a,b,c,d]) (css:=[[.int .i64 a],[b],[c],[d]]) Od ?_ trivial (Z3 h) (fun j u hu=>?_)
 ·exact (Cs.one (r:=J4) rfl).app ((Cs.one (r:=J4) rfl).app ((Cs.one (r:=J4) rfl).app (Cs.one (r:=J4) rfl)))
 rw [Nat.zero_add,Qk _ _ _ _ _ _ h]
 simpa using hu
theorem Oj (k:Int) (nm:Bs) (n:Int) (s:Bs) (names binds:List Bs) (kids:List Ex) (a z:Int) (ih:∀ x ∈ kids,B1 x):B1 (.mk k nm n s names binds kids a z):=by
 intro S cs w h
 obtain ⟨nv,bv,kv,rfl,hm,hs,hn,hb,I⟩:=Yz.1 h
 obtain ⟨np,nc,rfl,_⟩:=hn.len
 obtain ⟨bp,bc,rfl,_⟩:=hb.len
 obtain ⟨kp,kc,rfl,L⟩:=I.len
 have HC:=Qq (fun W (hb:Below w w W)=>conFn Tryz.cfExpr Vv isAgg59 sizeOf59 187 #[] (enters_of func187 Og rfl) S (.slice kp kids.length kc) kids W (fun e=>!Uz e) (I.below hb) (Nx S kids ih W))
 have G:=Qq (fun W g (h:W.heap[g]?=some (.cells #[.int .i64 4,.int .i64 10,.int .i64 15,.int .i64 16] 3 (0,0)))=>Lv _ (.slice (some ⟨g,0,none⟩) 4 4) [4,10,15,16] k W (sl_ints4 W 4 10 15 16 g _ h))
 have hF:Uz (.mk k nm n s names binds kids a z)=(!([4,10,15,16].any fun y=>decide (y=k))&&!(kids.any fun e=>!Uz e)):=by rw [Uz,Hp]
 rw [hF]
 obtain ⟨q,J⟩:=eX (([4,10,15,16].any fun y=>decide (y=k)))
 obtain ⟨q2,D⟩:=eX ((kids.any fun e=>!Uz e))
 rw [J] at G
 rw [D] at HC
 rw [J,D]
 clear hF J D h hn hb I ih
 unfold sv
 cases q
 ·rw [Bool.not_false,Bool.true_and]
  go_enter func122,ntmps122
  go_wp2_with fail
  refine (G.out _ (w+1) (Q1 _ _ _)).mono ?_
  rintro e w1 ⟨rfl,rfl⟩
  go_wp2_with (go_at_call 186;refine (HC.out _ (Zl _ _ _)).mono ?_;rintro e w' ⟨rfl,hw⟩)
  go_ret
  exact ⟨rfl,(Zl _ _ _).thn hw⟩
 go_enter func122,ntmps122
 go_wp2_with fail
 refine (G.out _ (w+1) (Q1 _ _ _)).mono ?_
 rintro e w1 ⟨rfl,rfl⟩
 go_wp2_with fail
 go_ret
 exact ⟨rfl,Zl _ _ _⟩
theorem simpAt:∀ x:Ex,B1 x
 | .mk k nm n s names binds kids a z=>Oj k nm n s names binds kids a z fun x _=>simpAt x
termination_by x=>SizeOf.sizeOf x
decreasing_by
 have:=List.sizeOf_lt_of_mem ‹_ ∈ kids›
 simp only [Ex.mk.sizeOf_spec]
 omega
open Go.Sort
section
variable {α β:Type} [Inhabited α] [Inhabited β] (f:α->β) (lt:β->β->Bool)
theorem Jx (d:Array α) (i:Nat) (h:i<d.size):(d.map f)[i]! = f d[i]! := by
 rw [getElem!_pos (d.map f) i (by simpa using h),getElem!_pos d i h,Array.getElem_map]
theorem swp_map (d:Array α) (i j:Nat) (hi:i<d.size) (hj:j<d.size):(swp d i j).map f=swp (d.map f) i j:=by
 apply Array.ext
 ·simp [swp]
 intro k h1 h2
 have hk:k<d.size:=by simpa [swp] using h1
 have e1:=Jx f (swp d i j) k (by rw [swp_size];exact hk)
 have e2:=swp_get d hi hj k
 have e3:=swp_get (d.map f) (i:=i) (j:=j) (by simpa using hi) (by simpa using hj) k
 rw [getElem!_pos _ k h1] at e1
 rw [getElem!_pos _ k h2] at e3
 rw [e1,e2,e3,Jx f d i hi,Jx f d j hj,Jx f d k hk]
 split
 ·rfl
 split <;> rfl
theorem Jn (a:Nat):∀ (j:Nat) (d:Array α),j<d.size->(insInner (fun x y=>lt (f x) (f y)) a j d).map f=insInner lt a j (d.map f)
 | 0,d,_=>by unfold insInner;rfl
 | j+1,d,h=>by
  unfold insInner
  rw [Jx f d (j+1) h,Jx f d j Oa]
  split
  ·rw [Jn a j _ (by rw [swp_size];omega),swp_map f d _ _ h Oa]
  rfl
theorem J7 (lt:α->α->Bool) (a:Nat):∀ (j:Nat) (d:Array α),(insInner lt a j d).size=d.size
 | 0,d=>by unfold insInner;rfl
 | j+1,d=>by
  unfold insInner
  split
  ·rw [J7 lt a j,swp_size]
  rfl
theorem Kv (a b:Nat):∀ (n i:Nat) (d:Array α),b - i=n->b<=d.size->(insOuter (fun x y=>lt (f x) (f y)) a b i d).map f=insOuter lt a b i (d.map f)
 | 0,i,d,hn,hb=>by
  rw [insOuter,if_neg Oa,insOuter,if_neg Oa]
 | n+1,i,d,hn,hb=>by
  rw [insOuter,if_pos Oa,Kv a b n (i+1) _ Oa (by rw [J7];exact hb),Jn f lt a i d Oa]
  conv=>rhs;rw [insOuter,if_pos (show i<b by omega)]
theorem Jc (d:Array α) (a b:Nat) (hb:b<=d.size):(insertionSort (fun x y=>lt (f x) (f y)) d a b).map f=insertionSort lt (d.map f) a b:=by
 unfold insertionSort
 exact Kv f lt a b _ _ d rfl hb
end
def Xl {T:Type} [Inhabited T] (cf:T->T->Int) (xs:List T):List T:=(insertionSort (ltOf cf) xs.toArray 0 xs.length).toList
end Go.Proofs.YtlanplhphiikjaaGreatDoor
