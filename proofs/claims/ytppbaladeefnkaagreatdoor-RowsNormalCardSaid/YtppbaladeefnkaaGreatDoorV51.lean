import Derived.Test.YtppbaladeefnkaaGreatDoorV44
import Derived.Test.YtppbaladeefnkaaGreatDoorV50
import Derived.Test.YtppbaladeefnkaaGreatDoorV47
set_option maxRecDepth 100000
set_option maxHeartbeats 400000000
namespace Go.Proofs.YtppbaladeefnkaaGreatDoor
open Go.RowKit Go.Shelf Go.Lib Tryz
theorem Rk (nm:Bs) (n:Int) (s:Bs) (names binds:List Bs) (kids:List Ex) (a z:Int) (d:Nat) (hN:Gj 14 nm names binds kids.length) (ih:∀ x ∈ kids,Yc d x):∀ (S:Nat→Prop) (ce:List Value) (nv vv:Value) (ns:List Bs) (vs:List Val) (w:World),Z6 S w ce (.mk 14 nm n s names binds kids a z)→Sl Qp S w nv ns→Sl Ql S w vv vs→ns.length≤vs.length→vs.length+(d+1)≤1000→(∀ v ∈ vs,Z2 v) →
  Calls prog 181 #[.agg ce.toArray,nv,vv] w (Yi S w):=by
 obtain ⟨hm,hl⟩:=hN.op rfl
 unfold Fh at hm
 simp only [List.mem_cons,List.not_mem_nil,or_false] at hm
 rcases hm with h | h | h | h | h | h | h | h | h | h | h
 ·exact Xq nm n s names binds kids a z d (by rw [hl,h];rfl) (by simp [h]) ih
 ·exact Xq nm n s names binds kids a z d (by rw [hl,h];rfl) (by simp [h]) ih
 ·exact Xq nm n s names binds kids a z d (by rw [hl,h];rfl) (by simp [h]) ih
 ·exact Xq nm n s names binds kids a z d (by rw [hl,h];rfl) (by simp [h]) ih
 ·exact Xq nm n s names binds kids a z d (by rw [hl,h];rfl) (by simp [h]) ih
 ·exact Xq nm n s names binds kids a z d (by rw [hl,h];rfl) (by simp [h]) ih
 ·exact Xq nm n s names binds kids a z d (by rw [hl,h];rfl) (by simp [h]) ih
 ·exact Pl nm h n s names binds kids a z d (by rw [hl,h];rfl) ih
 ·exact Sh nm h n s names binds kids a z d (by rw [hl,h];rfl) ih
 ·exact roper_or nm h n s names binds kids a z d (by rw [hl,h];rfl) ih
 exact Ru nm h n s names binds kids a z d (by rw [hl,h];rfl) ih
theorem G8:∀ (d:Nat) (e:Ex),WfE d e→Yc d e
 | 0,e,h=>by cases h
 | d+1,.mk k nm n s names binds kids a z,h=>by
  cases h with
  | mk _ _ _ _ _ _ _ _ _ _ hN hk=>
   have ih:∀ x ∈ kids,Yc d x:=fun x hx=>G8 d x (hk x hx)
   by_cases h0:k=0
   ·subst h0;exact Su nm n s names binds kids a z d ih
   by_cases h1:k=1
   ·subst h1
    by_cases hq:(s.length:Int)≤4096
    ·exact Hd nm n s names binds kids a z d ih hq
    exact H7 nm n s names binds kids a z d ih (by simpa using hq)
   by_cases h2:k=2
   ·subst h2;exact Oq nm n s names binds kids a z d ih
   by_cases h3:k=3
   ·subst h3;exact Sr nm n s names binds kids a z d ih
   by_cases h11:k=11
   ·subst h11;exact Pp nm n s names binds kids a z d ih (hN.two rfl)
   by_cases h12:k=12
   ·subst h12;exact reval_if nm n s names binds kids a z d ih (hN.three rfl)
   by_cases h13:k=13
   ·subst h13;exact Lt nm n s names binds kids a z d (Re nm n s names binds kids a z d ih (hN.mtch rfl).1 (hN.mtch rfl).2)
   by_cases h14:k=14
   ·subst h14;exact Bd nm n s names binds kids a z d (Rk nm n s names binds kids a z d hN ih)
   exact N5 k nm n s names binds kids a z d ih hN h0 h1 h2 h3 h11 h12 h13 h14
theorem La (k:Nat):Yc 8 (Gen.check k):=G8 8 _ (wf_check k)
theorem Sb:Yc 8 Gen.yes:=G8 8 _ (wf_yes _)
theorem By (c:UInt8) (h1:Kc c=true) (h2:tk Kb [c]=1) (h3:Fb [c]=false):Xy [c]:=
 ⟨by simp,by simp,by intro d hd;simp at hd;subst hd;exact h1,h2,h3⟩
theorem hue_gen:Vr [Gen.hue]:=by
 intro u hu c hc
 obtain rfl:=List.mem_singleton.1 hu
 rcases List.mem_cons.1 hc with rfl | hc
 ·exact ⟨.inl rfl,⟨by decide,by decide,by intro c hc;simp at hc;subst hc;decide,by decide⟩⟩
 obtain rfl:=List.mem_singleton.1 hc
 exact ⟨.inl rfl,⟨by decide,by decide,by intro c hc;simp at hc;subst hc;decide,by decide⟩⟩
theorem t_gen (key:List Bs) (refs:List Rf) (x:Ex) (hr:refs.length≤1000):Jm ⟨[116],[⟨[97],Gen.whole⟩,⟨[98],Gen.whole⟩,⟨[99],Gen.text⟩,⟨[100],Gen.yesno⟩,⟨[101],Gen.hueT⟩],key,refs,x⟩ where
 few:=by simp
 refs:=hr
 words:=by
  intro c hc
  simp only [List.mem_cons,List.not_mem_nil,or_false] at hc
  rcases hc with rfl | rfl | rfl | rfl | rfl
  all_goals exact By _ (by decide) (by decide) (by decide)
 once:=by simp
 types:=by
  intro c hc
  simp only [List.mem_cons,List.not_mem_nil,or_false] at hc
  rcases hc with rfl | rfl | rfl | rfl | rfl
  ·exact .inl (.inl rfl)
  ·exact .inl (.inl rfl)
  ·exact .inl (.inr (.inl rfl))
  ·exact .inl (.inr (.inr rfl))
  exact .inr rfl
theorem u_gen:Jm ⟨[117],[⟨[107],Gen.whole⟩,⟨[110],Gen.text⟩],[[107]],[],Gen.yes⟩ where
 few:=by simp
 refs:=by simp
 words:=by
  intro c hc
  simp only [List.mem_cons,List.not_mem_nil,or_false] at hc
  rcases hc with rfl | rfl
  all_goals exact By _ (by decide) (by decide) (by decide)
 once:=by simp
 types:=by
  intro c hc
  simp only [List.mem_cons,List.not_mem_nil,or_false] at hc
  rcases hc with rfl | rfl
  ·exact .inl (.inl rfl)
  exact .inl (.inr (.inl rfl))
theorem v_gen:Jm ⟨[118],[⟨[120],Gen.whole⟩,⟨[121],Gen.whole⟩],[[120]],[⟨[121],[118]⟩,⟨[120],[117]⟩],Gen.yes⟩ where
 few:=by simp
 refs:=by simp
 words:=by
  intro c hc
  simp only [List.mem_cons,List.not_mem_nil,or_false] at hc
  rcases hc with rfl | rfl
  all_goals exact By _ (by decide) (by decide) (by decide)
 once:=by simp
 types:=by
  intro c hc
  simp only [List.mem_cons,List.not_mem_nil,or_false] at hc
  rcases hc with rfl | rfl
  all_goals exact .inl (.inl rfl)
theorem B0 {k:Nat} {two ref third:Bool} {t:Tbl} (h:t ∈ (Gen.schema k two ref third).tables):Jm t∧t.key.length≤2∧(t.check=Gen.check k∨t.check=Gen.yes):=by
 unfold Gen.schema at h
 rcases List.mem_append.1 h with h | h
 ·rcases List.mem_cons.1 h with rfl | h
  ·refine ⟨t_gen _ _ _ (by cases ref <;> simp),?_,.inl rfl⟩
   cases two <;> simp
  obtain rfl:=List.mem_singleton.1 h
  exact ⟨u_gen,by simp,.inr rfl⟩
 cases third with
 | false=>simp at h
 | true=>
  obtain rfl:=List.mem_singleton.1 h
  exact ⟨v_gen,by simp,.inr rfl⟩
theorem Ht (k:Nat) (two ref third:Bool):Pv (Gen.schema k two ref third) where
 sums:=hue_gen
 gen:=fun t ht=>(B0 ht).1
 ok:=fun t ht=>by
  obtain ⟨h1,h2,h3⟩:=B0 ht
  refine ⟨by omega,by have:=h1.few;omega,h1.types,?_⟩
  rcases h3 with h3 | h3
  ·rw [h3];exact La k
  rw [h3];exact Sb
 few:=by cases third <;> simp [Gen.schema]
 once:=by cases third <;> simp [Gen.schema]
end Go.Proofs.YtppbaladeefnkaaGreatDoor
