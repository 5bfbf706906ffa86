import Derived.Test.YtlanplhphiikjaaGreatDoorE47
set_option maxRecDepth 100000
set_option maxHeartbeats 400000000
namespace Go.Proofs.YtlanplhphiikjaaGreatDoor
open Go.RowKit Go.Shelf Go.Lib Tryz
theorem L4 (c:UInt8) (h1:Dl c=true) (h2:tk Jw [c]=1) (h3:Ff [c]=false):V8 [c]:=
 ⟨Qxz,Qxz,by intro d hd;simp at hd;subst hd;exact h1,h2,h3⟩
theorem hue_gen:Jb [Gen.hue]:=by
 intro u hu c A
 obtain rfl:=Z5.1 hu
 rcases Z3.1 A with rfl | A
 ·exact ⟨.inl rfl,⟨Qxv,Qxv,by intro c A;simp at A;subst A;decide,Qxv⟩⟩
 obtain rfl:=Z5.1 A
 exact ⟨.inl rfl,⟨Qxv,Qxv,by intro c A;simp at A;subst A;decide,Qxv⟩⟩
theorem t_gen (key:List Bs) (refs:List Rf) (x:Ex) (hr:refs.length<=1000):Fj ⟨[116],[⟨[97],Gen.whole⟩,⟨[98],Gen.whole⟩,⟨[99],Gen.text⟩,⟨[100],Gen.yesno⟩,⟨[101],Gen.hueT⟩],key,refs,x⟩ where
 few:=Qxz
 refs:=hr
 words:=by
  intro c A
  simp only [Z3,Z2,or_false] at A
  rcases A with rfl | rfl | rfl | rfl | rfl
  all_goals exact L4 _ Qxv Qxv Qxv
 once:=Qxz
 types:=by
  intro c A
  simp only [Z3,Z2,or_false] at A
  rcases A with rfl | rfl | rfl | rfl | rfl
  ·exact .inl (.inl rfl)
  ·exact .inl (.inl rfl)
  ·exact .inl (.inr (.inl rfl))
  ·exact .inl (.inr (.inr rfl))
  exact .inr rfl
theorem u_gen:Fj ⟨[117],[⟨[107],Gen.whole⟩,⟨[110],Gen.text⟩],[[107]],[],Gen.yes⟩ where
 few:=Qxz
 refs:=Qxz
 words:=by
  intro c A
  simp only [Z3,Z2,or_false] at A
  rcases A with rfl | rfl
  all_goals exact L4 _ Qxv Qxv Qxv
 once:=Qxz
 types:=by
  intro c A
  simp only [Z3,Z2,or_false] at A
  rcases A with rfl | rfl
  ·exact .inl (.inl rfl)
  exact .inl (.inr (.inl rfl))
theorem v_gen:Fj ⟨[118],[⟨[120],Gen.whole⟩,⟨[121],Gen.whole⟩],[[120]],[⟨[121],[118]⟩,⟨[120],[117]⟩],Gen.yes⟩ where
 few:=Qxz
 refs:=Qxz
 words:=by
  intro c A
  simp only [Z3,Z2,or_false] at A
  rcases A with rfl | rfl
  all_goals exact L4 _ Qxv Qxv Qxv
 once:=Qxz
 types:=by
  intro c A
  simp only [Z3,Z2,or_false] at A
  rcases A with rfl | rfl
  all_goals exact .inl (.inl rfl)
theorem Mq {k:Nat} {two ref third:Bool} {t:Tbl} (h:t ∈ (Gen.schema k two ref third).tables):Fj t/\t.key.length<=2/\(t.check=Gen.check k\/t.check=Gen.yes):=by
 unfold Gen.schema at h
 rcases Z4.1 h with h | h
 ·rcases Z3.1 h with rfl | h
  ·refine ⟨t_gen _ _ _ (by cases ref <;> simp),?_,.inl rfl⟩
   cases two <;> simp
  obtain rfl:=Z5.1 h
  exact ⟨u_gen,Qxz,.inr rfl⟩
 cases third with
 | false=>simp at h
 | true=>
  obtain rfl:=Z5.1 h
  exact ⟨v_gen,Qxz,.inr rfl⟩
theorem O6 (k:Nat) (two ref third:Bool):R9 (Gen.schema k two ref third) where
 sums:=hue_gen
 gen:=fun t D=>(Mq D).1
 ok:=fun t D=>by
  obtain ⟨h1,h2,A⟩:=Mq D
  refine ⟨Qvu,by have:=h1.few;omega,h1.types,?_⟩
  rcases A with A | A
  ·rw [A];exact Tv k
  rw [A];exact Qqq
 few:=by cases third <;> simp [Gen.schema]
 once:=by cases third <;> simp [Gen.schema]
end Go.Proofs.YtlanplhphiikjaaGreatDoor
