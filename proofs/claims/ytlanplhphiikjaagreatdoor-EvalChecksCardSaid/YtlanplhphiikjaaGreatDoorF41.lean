import Derived.Test.YtlanplhphiikjaaGreatDoorF32
import Derived.Test.YtlanplhphiikjaaGreatDoorF38
import Derived.Test.YtlanplhphiikjaaGreatDoorF34
set_option maxRecDepth 100000
set_option maxHeartbeats 400000000
namespace Go.Proofs.YtlanplhphiikjaaGreatDoor
open Go.RowKit Go.Shelf Go.Lib Tryz
def V15 (t:Ty) (v:Val):Prop:=
 (t=Gen.whole/\∃ z:Int,-2<=z/\z<=9/\v=.mk 0 z [] [] []) \/
 (t=Gen.text/\∃ s:Bs,s.length<=2/\v=.mk 1 0 s [] []) \/
 (t=Gen.yesno/\∃ n:Int,(n=0\/n=1)/\v=.mk 2 n [] [] []) \/
 (t=G15.colorT/\∃ s:Bs,(s=[82,101,100]\/s=[66,108,117,101])/\v=.mk 3 0 s [] []) \/
 (t=G15.sizeT/\(v=.mk 3 0 [83,109,97,108,108] [] []\/∃ z:Int,-2<=z/\z<=9/\v=.mk 3 0 [66,105,103] [] [.mk 0 z [] [] []]))
def Vp:List Ty->List Val->Prop
 | [],[]=>True
 | t::ts,v::vs=>V15 t v/\Vp ts vs
 | _,_=>False
def Dj (t:Tbl) (row:Val):Prop:=∃ kids,row=.mk 4 0 [] (Ym t.columns).1 kids/\Vp (Ym t.columns).2 kids
theorem U9:∀ {ts:List Ty} {vs:List Val} {t:Ty} {v:Val},Vp ts vs->V15 t v->Vp (ts++[t]) (vs++[v])
 | [],[],_,_,_,h=>⟨h,trivial⟩
 | _::_,_::_,_,_,⟨h1,h2⟩,h=>⟨h1,U9 h2 h⟩
 | [],_::_,_,_,h,_=>h.elim
 | _::_,[],_,_,h,_=>h.elim
theorem X6:∀ {ts:List Ty} {vs:List Val},Vp ts vs->vs.length=ts.length
 | [],[],_=>rfl
 | _::ts,_::vs,⟨_,h2⟩=>by rw [List.length_cons,List.length_cons,X6 h2]
 | [],_::_,h=>h.elim
 | _::_,[],h=>h.elim
theorem Ei:∀ {ts:List Ty} {vs:List Val},Vp ts vs->∀ (i:Nat) (t:Ty),ts[i]?=some t->∃ v,vs[i]?=some v/\V15 t v
 | [],[],_,i,t,hi=>by simp at hi
 | _::ts,v::vs,⟨h1,_⟩,0,t,hi=>⟨v,rfl,by simp at hi;exact hi ▸ h1⟩
 | _::ts,v::vs,⟨_,h2⟩,i+1,t,hi=>by
  obtain ⟨u,hu,h⟩:=Ei h2 i t (by simpa using hi)
  exact ⟨u,by simpa using hu,h⟩
 | [],_::_,h,_,_,_=>h.elim
 | _::_,[],h,_,_,_=>h.elim
theorem cap15 (x:Bs) (h:x ∈ [[82,101,100],[66,108,117,101],[83,109,97,108,108],([66,105,103]:Bs)]):Md x:=by
 simp only [Zy,Zx,or_false] at h
 rcases h with rfl | rfl | rfl | rfl <;> exact ⟨Of,Of,by intro c hc;simp at hc;subst hc;decide,Of⟩
theorem V15.good {t:Ty} {v:Val} (h:V15 t v):Vj v:=by
 rcases h with ⟨_,z,h1,h2,rfl⟩ | ⟨_,s,_,rfl⟩ | ⟨_,n,h,rfl⟩ | ⟨_,s,h,rfl⟩ | ⟨_,rfl | ⟨z,h1,h2,rfl⟩⟩
 ·exact .int z ⟨Oa,Oa⟩
 ·exact .text s
 ·exact .bool n h
 ·exact .make s [] (cap15 s (by rcases h with rfl | rfl <;> decide)) Of Od
 ·exact .make _ [] (cap15 _ Of) Of Od
 refine .make _ _ (cap15 _ Of) (Q4 1) ?_
 intro k hk
 rw [Z0] at hk
 subst hk
 exact .int z ⟨Oa,Oa⟩
theorem V15.has {t:Ty} {v:Val} (h:V15 t v):Nf G15.sums v t=true:=by
 rcases h with ⟨rfl,z,h1,h2,rfl⟩ | ⟨rfl,s,_,rfl⟩ | ⟨rfl,n,h,rfl⟩ | ⟨rfl,s,h,rfl⟩ | ⟨rfl,rfl | ⟨z,h1,h2,rfl⟩⟩
 ·rfl
 ·rfl
 ·rfl
 ·rcases h with rfl | rfl <;> rfl
 ·rfl
 rfl
theorem vb_ne (n:Nat):vb n≠[]:=by unfold vb;split <;> simp
theorem V15.key {t:Ty} {v:Val} (h:V15 t v) (ht:t=Gen.whole\/t=Gen.text):WOk v/\(Y0 v).length<=20/\Y0 v≠[]:=by
 have D:∀ k n:Int,∀ s:Bs,Y0 (.mk k n s [] [])≠[]:=fun k n s e=>by
  rw [Y0] at e
  exact vb_ne _ (List.append_eq_nil_iff.1 e).1
 rcases h with ⟨_,z,h1,h2,rfl⟩ | ⟨_,s,hs,rfl⟩ | ⟨rfl,_⟩ | ⟨rfl,_⟩ | ⟨rfl,_⟩
 ·refine ⟨.mk 0 z [] [] [] ⟨Of,Of⟩ ⟨Oa,Oa⟩ (fun _=>Q4 _) (fun _=>rfl) Od,?_,D _ _ _⟩
  have a1:=B6 (n:=0) Of Of
  have a2:=B6 (n:=z) Oa Oa
  rw [Y0,Xg,List.append_nil,if_pos (.inl rfl),Qe]
  omega
 ·refine ⟨.mk 1 0 s [] [] ⟨Of,Of⟩ ⟨Of,Of⟩ (fun _=>Q4 _) (fun _=>rfl) Od,?_,D _ _ _⟩
  have a1:=B6 (n:=1) Of Of
  rw [Y0,Xg,List.append_nil,if_neg Of,if_pos rfl,Qe]
  unfold wT
  rw [Mh Oa,Qe,List.length_singleton]
  omega
 all_goals exact absurd ht (by rintro (h | h) <;> cases h)
theorem Fj:∀ {ts:List Ty} {vs:List Val},Vp ts vs->∀ v ∈ vs,Vj v
 | [],[],_=>Od
 | _::ts,_::vs,⟨h1,h2⟩=>by
  intro v hv
  rcases Zy.1 hv with rfl | hv
  ·exact h1.good
  exact Fj h2 v hv
 | [],_::_,h=>h.elim
 | _::_,[],h=>h.elim
theorem Gc:∀ {ts:List Ty} {vs:List Val},Vp ts vs->eqL (Nf G15.sums) vs ts=true
 | [],[],_=>rfl
 | _::ts,_::vs,⟨h1,h2⟩=>by rw [eqL,h1.has,Gc h2];rfl
 | [],_::_,h=>h.elim
 | _::_,[],h=>h.elim
theorem word15 (x:Bs) (h:x ∈ [[97,116],[105,100],[110],[115,105,122,101],[110,97,109,101],[111,112,101,110],[99,111,108,111,114],([115,101,108,108,115]:Bs)]):Fe x:=by
 simp only [Zy,Zx,or_false] at h
 rcases h with rfl | rfl | rfl | rfl | rfl | rfl | rfl | rfl <;> exact ⟨Of,Of,by intro c hc;simp at hc;subst hc;decide,Of,Of⟩
def N15 (l:List Bs):Prop:=l=[[97,116],[105,100],[110],[115,105,122,101]]\/l=[[105,100],[110,97,109,101],[111,112,101,110]]\/l=[[99,111,108,111,114],[105,100],[110,97,109,101],[111,112,101,110]]\/l=[[105,100],[111,112,101,110],[115,101,108,108,115]]
theorem n15_row {t:Tbl} (h:Uy t):N15 (Ym t.columns).1:=by
 rcases h with ⟨a,b,rfl⟩ | ⟨a,r,c,rfl⟩ | ⟨r,k,rfl⟩
 ·cases b
  ·exact .inr (.inl rfl)
  exact .inr (.inr (.inl rfl))
 ·exact .inl rfl
 exact .inr (.inr (.inr rfl))
theorem N15.words {l:List Bs} (h:N15 l):∀ x ∈ l,Fe x:=by
 intro x hx
 refine word15 x ?_
 revert x
 rcases h with rfl | rfl | rfl | rfl <;> decide
theorem pw_next {l:List Bs} (h:l.Pairwise fun x y=>Y7 x y<0) (i:Nat) (x y:Bs) (hx:l[i]?=some x) (hy:l[i+1]?=some y):Y7 x y<0:=by
 obtain ⟨hi,rfl⟩:=Qj hx
 obtain ⟨hj,rfl⟩:=Qj hy
 exact List.pairwise_iff_getElem.1 h i (i+1) hi hj Oa
theorem N15.inc {l:List Bs} (h:N15 l):l.Pairwise fun x y=>Y7 x y<0:=by
 rcases h with rfl | rfl | rfl | rfl <;> decide
def Eo (t:Tbl):Tbl:=⟨t.name,Xl Xy t.columns,t.key,t.refs,t.check⟩
open Go.Sort in
theorem sort3 {T:Type} [Inhabited T] (cf:T->T->Int) (x y z:T):Xl cf [x,y,z]=(insInner (ltOf cf) 0 2 (insInner (ltOf cf) 0 1 #[x,y,z])).toList:=by
 unfold Xl insertionSort
 rw [show [x,y,z].length=3 from rfl,insOuter,if_pos Of,insOuter,if_pos Of,insOuter,if_neg Of]
open Go.Sort in
theorem sort4 {T:Type} [Inhabited T] (cf:T->T->Int) (x y z u:T):Xl cf [x,y,z,u]=(insInner (ltOf cf) 0 3 (insInner (ltOf cf) 0 2 (insInner (ltOf cf) 0 1 #[x,y,z,u]))).toList:=by
 unfold Xl insertionSort
 rw [show [x,y,z,u].length=4 from rfl,insOuter,if_pos Of,insOuter,if_pos Of,insOuter,if_pos Of,insOuter,if_neg Of]
theorem srtd_row {t:Tbl} (h:Uy t):Ku (Eo t)=L8 t:=by
 rcases h with ⟨a,b,rfl⟩ | ⟨a,r,c,rfl⟩ | ⟨r,k,rfl⟩
 ·cases b
  ·show Ty.mk 5 [] 0 ((Xl Xy [_,_,_]).map Col.name) ((Xl Xy [_,_,_]).map Col.type)=_
   rw [sort3]
   kernel_rfl
  show Ty.mk 5 [] 0 ((Xl Xy [_,_,_,_]).map Col.name) ((Xl Xy [_,_,_,_]).map Col.type)=_
  rw [sort4]
  kernel_rfl
 ·show Ty.mk 5 [] 0 ((Xl Xy [_,_,_,_]).map Col.name) ((Xl Xy [_,_,_,_]).map Col.type)=_
  rw [sort4]
  kernel_rfl
 show Ty.mk 5 [] 0 ((Xl Xy [_,_,_]).map Col.name) ((Xl Xy [_,_,_]).map Col.type)=_
 rw [sort3]
 kernel_rfl
theorem types15 {t:Tbl} (h:Uy t):∀ y ∈ (Ym t.columns).2,Hd y\/y.kind=3:=by
 intro y hy
 obtain ⟨c,D,rfl⟩:=(Xc _ _ rfl).2.2 y hy
 have:c.type=Gen.whole\/c.type=Gen.text\/c.type=Gen.yesno\/c.type=G15.colorT\/c.type=G15.sizeT:=by
  rcases h with ⟨a,b,rfl⟩ | ⟨a,r,k,rfl⟩ | ⟨r,k,rfl⟩
  ·cases a <;> cases b <;> simp [G15.place,G15.idT] at D <;> rcases D with rfl | rfl | rfl | rfl <;> simp [Gen.whole,Gen.text,Gen.yesno]
  ·cases a <;> simp [G15.item,G15.idT] at D <;> rcases D with rfl | rfl | rfl | rfl <;> simp [Gen.whole,Gen.text,Gen.yesno]
  simp [G15.shop] at D
  rcases D with rfl | rfl | rfl <;> simp
 rcases this with h | h | h | h | h <;> rw [h]
 ·exact .inl (.inl rfl)
 ·exact .inl (.inr (.inl rfl))
 ·exact .inl (.inr (.inr rfl))
 ·exact .inr rfl
 exact .inr rfl
theorem sums15:SumsOk G15.sums:=by
 intro u hu c hc
 simp only [G15.sums,Zy,Zx,or_false] at hu
 rcases hu with rfl | rfl <;> simp only [G15.color,G15.size,Zy,Zx,or_false] at hc <;> rcases hc with rfl | rfl <;> exact .inl rfl
theorem La {t:Tbl} {row:Val} (ht:Uy t) (h:Dj t row):Vj row:=by
 obtain ⟨kids,rfl,hk⟩:=h
 have hn:=n15_row ht
 exact .record _ _ (by rw [X6 hk,(Xc _ _ rfl).1,(Xc _ _ rfl).2.1]) hn.words (pw_next hn.inc) (Fj hk)
theorem eqL_self (l:List Bs):eqL (fun x y=>decide (x=y)) l l=true:=by
 induction l with
 | nil=>rfl
 | cons a l ih=>rw [eqL,ih];simp
theorem Nb {t:Tbl} {row:Val} (ht:Uy t) (h:Dj t row):Us G15.sums row (Ku (Eo t)) true:=by
 obtain ⟨kids,rfl,hk⟩:=h
 rw [srtd_row ht]
 have:=hasRec G15.sums (.mk 4 0 [] (Ym t.columns).1 kids) [] (Ym t.columns).1 (Ym t.columns).2 (Nf G15.sums) (fun x _ y hy=>hasP_at G15.sums sums15 x y (types15 ht y hy))
 have he:hasR (Nf G15.sums) (.mk 4 0 [] (Ym t.columns).1 kids) (Ym t.columns).1 (Ym t.columns).2=true:=by
  unfold hasR
  rw [show (Val.mk 4 0 [] (Ym t.columns).1 kids).names=(Ym t.columns).1 from rfl,show (Val.mk 4 0 [] (Ym t.columns).1 kids).kids=kids from rfl,eqL_self,Gc hk]
  rfl
 rw [he] at this
 exact this
theorem getF15 {names:List Bs} {ts:List Ty} {kids:List Val} (hk:Vp ts kids) (nm:Bs) (i:Nat) (y:Ty) (h1:Uk names nm=some i) (h2:ts[i]?=some y):∃ v,Yn (.mk 4 0 [] names kids) nm=some v/\V15 y v:=by
 obtain ⟨v,hv,h⟩:=Ei hk i y h2
 refine ⟨v,?_,h⟩
 unfold Yn
 rw [if_pos (show (Val.mk 4 0 [] names kids).kind=4 from rfl),show (Val.mk 4 0 [] names kids).names=names from rfl,h1]
 exact hv
def E6 (t:Tbl) (r:Val):List Val:=(keyOf t.key r).getD []
theorem keys15 {t:Tbl} {row:Val} (ht:Uy t) (h:Dj t row):Bb t [row] (E6 t):=by
 obtain ⟨kids,rfl,hk⟩:=h
 have hg:∀ nm ∈ t.key,∃ v,Yn (.mk 4 0 [] (Ym t.columns).1 kids) nm=some v/\(WOk v/\(Y0 v).length<=20/\Y0 v≠[]):=by
  have G:∀ nm (i:Nat) y,Uk (Ym t.columns).1 nm=some i->(Ym t.columns).2[i]?=some y->(y=Gen.whole\/y=Gen.text)->∃ v,Yn (.mk 4 0 [] (Ym t.columns).1 kids) nm=some v/\(WOk v/\(Y0 v).length<=20/\Y0 v≠[]):=fun nm i y L M N=>by
   obtain ⟨v,Y,h⟩:=getF15 hk nm i y L M
   exact ⟨v,Y,h.key N⟩
  clear hk
  intro nm D
  rcases ht with ⟨a,b,rfl⟩ | ⟨a,r,c,rfl⟩ | ⟨r,k,rfl⟩
  ·rw [show (G15.place a b).key=[[105,100]] from rfl,Z0] at D
   subst D
   cases b
   ·exact G _ 0 (G15.idT a) Og Og (by cases a <;> simp [G15.idT,Gen.whole,Gen.text])
   exact G _ 1 (G15.idT a) Og Og (by cases a <;> simp [G15.idT,Gen.whole,Gen.text])
  ·rw [show (G15.item a r c).key=[[105,100]] from rfl,Z0] at D
   subst D
   exact G _ 1 Gen.whole Og Og (.inl rfl)
  have:nm=[105,100]\/nm=[115,101,108,108,115]:=by
   cases k <;> simp [G15.shop] at D
   ·exact .inl D
   exact D
  rcases this with rfl | rfl
  ·exact G _ 0 Gen.text Og Og (.inr rfl)
  exact G _ 2 Gen.whole Og Og (.inl rfl)
 have O:t.key.length<=3:=by
  rcases ht with ⟨a,b,rfl⟩ | ⟨a,r,c,rfl⟩ | ⟨r,k,rfl⟩
  ·exact (by decide:(1:Nat)<=3)
  ·exact (by decide:(1:Nat)<=3)
  cases k <;> simp [G15.shop]
 generalize Val.mk 4 0 [] (Ym t.columns).1 kids=row at hg |-
 have key:∀ I:List Bs,(∀ nm ∈ I,∃ v,Yn row nm=some v/\(WOk v/\(Y0 v).length<=20/\Y0 v≠[]))->∃ l,keyOf I row=some l/\l.length=I.length/\∀ v ∈ l,WOk v/\(Y0 v).length<=20/\Y0 v≠[]:=by
  intro I
  induction I with
  | nil=>exact fun _=>⟨[],rfl,rfl,Od⟩
  | cons k I ih=>
   intro h
   obtain ⟨v,Y,Z⟩:=h k (List.mem_cons_self ..)
   obtain ⟨l,O,T,U⟩:=ih (fun nm hm=>h nm (List.mem_cons_of_mem _ hm))
   refine ⟨v::l,by rw [keyOf,Y,O],by simp [T],?_⟩
   intro u V
   rcases Zy.1 V with rfl | V
   ·exact Z
   exact U u V
 obtain ⟨l,L,M,N⟩:=key t.key hg
 refine ⟨fun r J=>?_,fun r J=>?_,fun r J=>?_⟩ <;> rw [Z0] at J <;> subst J <;> unfold E6 <;> rw [L]
 ·rfl
 ·exact N
 rw [Option.getD_some,M];exact O
theorem chk15 {t:Tbl} (h:Uy t):∃ few:Bool,t.check=if few then lt9 else Gen.yes:=by
 rcases h with ⟨a,b,rfl⟩ | ⟨a,r,c,rfl⟩ | ⟨r,k,rfl⟩
 ·exact ⟨false,rfl⟩
 ·exact ⟨c,rfl⟩
 exact ⟨false,rfl⟩
theorem item15 {t:Tbl} (h:Uy t) (few:Bool) (hf:t.check=if few then lt9 else Gen.yes):few=false\/few=true/\∃ a r,t=G15.item a r true:=by
 cases few with
 | false=>exact .inl rfl
 | true=>
  refine .inr ⟨rfl,?_⟩
  rcases h with ⟨a,b,rfl⟩ | ⟨a,r,c,rfl⟩ | ⟨r,k,rfl⟩
  ·exact absurd hf (by intro e;cases e)
  ·cases c with
   | false=>exact absurd hf (by intro e;cases e)
   | true=>exact ⟨a,r,rfl⟩
  exact absurd hf (by intro e;cases e)
theorem ev_intV (nm:Bs) (n:Int) (s:Bs) (names binds:List Bs) (kids:List Ex) (a z:Int) (env:List (Bs × Val)):EvV (.mk 0 nm n s names binds kids a z) env (Yx n):=by
 intro S0 S' cs p w J I
 have he:Vq (fun b=>S0 b/\b<w) w p env:=I.move (.refl _ _) (fun b hb h=>⟨h,hb⟩)
 obtain ⟨nv,bv,kv,rfl,T,U,hn,hb,hk⟩:=Yz.1 J
 obtain ⟨np,nc,rfl,_⟩:=hn.len
 obtain ⟨bp,bc,rfl,_⟩:=hb.len
 obtain ⟨kp,kc,rfl,O⟩:=hk.len
 obtain ⟨q,rfl⟩:=he.ptr
 clear J he I hn hb hk
 unfold sv
 go_enter func125,ntmps125
 go_upto_region 3 with fail
 generalize D:((w.alloc _).alloc _).alloc _=w3
 have G:=eqB D (Yr _ _ _ _)
 have N:=eqH (b:=w.heap.size) D (Ze _ _ _ _)
 have L:=eqH (b:=w.heap.size+1+1) D (Z9 _ _ _ _)
 have c0:=rA0 N;have c2:=rA2 N
 have H2:=Qq L;have M:=Qq G
 obtain ⟨f0,f1,f2,f3,f4⟩:=frz5 L
 obtain ⟨r0,r1,r2,r3,r4⟩:=row5 L
 clear N L G D
 go_wp2_with fail
 show bodyPost _ _ _ _ _ (Zn w3 (w+1+1) On n Oo Ot Ot)
 refine Q2 (v:=.agg #[On,n,Oo,Ot,Ot]) (by simp [results,results125,go_sem,Z8 H2.out]) rfl ⟨_,rfl,Zu (s:=[]) Od (Sl.nil _ _ _) (Sl.nil _ _ _),Z7 M.out Oa⟩
theorem sat15 {t:Tbl} {row:Val} {rs:List Rf} (ht:Uy t) (h:Dj t row) (few:Bool) (hf:t.check=if few then lt9 else Gen.yes):Mc ⟨t.name,t.columns,t.key,rs,t.check⟩ row (U7 t row few):=by
 have hl:row.names.length<=row.kids.length:=by
  obtain ⟨kids,rfl,G⟩:=h
  show (Ym t.columns).1.length<=kids.length
  rw [X6 G,(Xc _ _ rfl).1,(Xc _ _ rfl).2.1]
  exact Q4 _
 rcases item15 ht few hf with rfl | ⟨rfl,a,r,rfl⟩
 ·refine Hk ?_ ?_ hl
  ·show Uz t.check=true
   rw [hf]
   rfl
  show EvV t.check _ (Yb (U7 t row false))
  rw [hf]
  exact ev_bool [] 1 [] [] [] [] 0 0 _
 refine Hk rfl ?_ hl
 obtain ⟨kids,rfl,G⟩:=h
 have I:(Ym (G15.item a r true).columns).1=[[97,116],[105,100],[110],[115,105,122,101]]:=Og
 have D:=X6 G
 rw [(Xc _ _ rfl).2.1] at D
 rw [I]
 match kids,D with
 | [k0,k1,k2,k3],_=>
  show EvV lt9 _ (Yb (decide (Zt k2 (Yx 9)<0)))
  exact ev_less 0 [] [] [] (Gen.var [110]) (Gen.int 9) 0 0 _ k2 (Yx 9) (ev_var [110] 0 [] [] [] [] 0 0 _ k2 rfl) (ev_intV [] 9 [] [] [] [] 0 0 _)
end Go.Proofs.YtlanplhphiikjaaGreatDoor
