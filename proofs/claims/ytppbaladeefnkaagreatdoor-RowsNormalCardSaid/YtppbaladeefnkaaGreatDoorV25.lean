import Derived.Test.YtppbaladeefnkaaGreatDoorV24
set_option maxRecDepth 100000
set_option maxHeartbeats 400000000
namespace Go.Proofs.YtppbaladeefnkaaGreatDoor
open Go.RowKit Go.Shelf Go.Lib Tryz
def Fh:List Bs:=[[61,61],[33,61],[60],[60,61],[43],[45],[42],[43,43],[97,110,100],[111,114],[110,111,116]]
structure Gj (k:Int) (nm:Bs) (names binds:List Bs) (n:Nat):Prop where
 few:n≤1000
 fewn:names.length≤1000
 words:k=6→∀ x ∈ names,Xy x
 one:k=7→names.length=1∧n=2
 fld:k=8→1≤n
 two:k=11→n=2
 three:k=12→n=3
 mtch:k=13→n=names.length+1∧binds.length=names.length
 op:k=14→nm ∈ Fh∧n=if nm=[110,111,116] then 1 else 2
inductive WfE:Nat→Ex→Prop
 | mk (d:Nat) (k:Int) (nm:Bs) (n:Int) (s:Bs) (names binds:List Bs) (kids:List Ex) (a z:Int) (hn:Gj k nm names binds kids.length) (hk:∀ x ∈ kids,WfE d x):WfE (d+1) (.mk k nm n s names binds kids a z)
theorem Rr (k:Int) (nm:Bs) (hk:k≤5∨k=9):Gj k nm [] [] 0:=⟨by omega,by simp,fun h=>by omega,fun h=>by omega,fun h=>by omega,fun h=>by omega,fun h=>by omega,fun h=>by omega,fun h=>by omega⟩
theorem Dx (d:Nat) (k:Int) (nm:Bs) (n:Int) (s:Bs) (hk:k≤5∨k=9):WfE (d+1) (.mk k nm n s [] [] [] 0 0):=.mk _ _ _ _ _ _ _ _ _ _ (Rr k nm hk) (fun x h=>by simp at h)
theorem wf_2 {d:Nat} {a b:Ex} (ha:WfE d a) (hb:WfE d b):∀ x ∈ [a,b],WfE d x:=by
 intro x hx
 simp only [List.mem_cons,List.not_mem_nil,or_false] at hx
 rcases hx with rfl | rfl
 ·exact ha
 exact hb
theorem wf_1 {d:Nat} {a:Ex} (ha:WfE d a):∀ x ∈ [a],WfE d x:=by
 intro x hx
 simp only [List.mem_cons,List.not_mem_nil,or_false] at hx
 subst hx;exact ha
theorem wf_3 {d:Nat} {a b c:Ex} (ha:WfE d a) (hb:WfE d b) (hc:WfE d c):∀ x ∈ [a,b,c],WfE d x:=by
 intro x hx
 simp only [List.mem_cons,List.not_mem_nil,or_false] at hx
 rcases hx with rfl | rfl | rfl
 ·exact ha
 ·exact hb
 exact hc
theorem Xk {d:Nat} {o:Bs} {a b:Ex} (ho:o ∈ Fh∧o≠[110,111,116]) (ha:WfE d a) (hb:WfE d b):WfE (d+1) (Gen.op o [a,b]):=
 .mk _ _ _ _ _ _ _ _ _ _ ⟨by simp,by simp,fun h=>by omega,fun h=>by omega,fun h=>by omega,fun h=>by omega,fun h=>by omega,fun h=>by omega,fun _=>⟨ho.1,by rw [if_neg ho.2];rfl⟩⟩ (wf_2 ha hb)
theorem wf_not {d:Nat} {a:Ex} (ha:WfE d a):WfE (d+1) (Gen.op [110,111,116] [a]):=
 .mk _ _ _ _ _ _ _ _ _ _ ⟨by simp,by simp,fun h=>by omega,fun h=>by omega,fun h=>by omega,fun h=>by omega,fun h=>by omega,fun h=>by omega,fun _=>⟨by simp [Fh],by simp⟩⟩ (wf_1 ha)
theorem Yw (d:Nat) (x:Bs):WfE (d+1) (Gen.var x):=Dx _ _ _ _ _ (by omega)
theorem Gl (d:Nat) (n:Int):WfE (d+1) (Gen.int n):=Dx _ _ _ _ _ (by omega)
theorem Ko (d:Nat) (n:Int):WfE (d+1) (Gen.bool n):=Dx _ _ _ _ _ (by omega)
theorem wf_str (d:Nat) (x:Bs):WfE (d+1) (Gen.str x):=Dx _ _ _ _ _ (by omega)
theorem word_x:∀ x ∈ ([[121],[120]]:List Bs),Xy x:=by
 intro x hx
 simp only [List.mem_cons,List.not_mem_nil,or_false] at hx
 rcases hx with rfl | rfl
 all_goals exact ⟨by decide,by decide,by decide,by decide,by decide⟩
theorem wf_rec (d:Nat):WfE (d+2) Gen.rec:=
 .mk _ _ _ _ _ _ _ _ _ _ ⟨by simp,by simp,fun _=>word_x,fun h=>by omega,fun h=>by omega,fun h=>by omega,fun h=>by omega,fun h=>by omega,fun h=>by omega⟩ (wf_2 (Yw _ _) (Yw _ _))
theorem wf_wth (d:Nat):WfE (d+3) Gen.wth:=
 .mk _ _ _ _ _ _ _ _ _ _ ⟨by simp,by simp,fun h=>by omega,fun _=>⟨rfl,rfl⟩,fun h=>by omega,fun h=>by omega,fun h=>by omega,fun h=>by omega,fun h=>by omega⟩ (wf_2 (wf_rec _) (Gl _ _))
theorem wf_fld {d:Nat} (x:Bs) {a:Ex} (ha:WfE d a):WfE (d+1) (.mk 8 x 0 [] [] [] [a] 0 0):=
 .mk _ _ _ _ _ _ _ _ _ _ ⟨by simp,by simp,fun h=>by omega,fun h=>by omega,fun _=>by simp,fun h=>by omega,fun h=>by omega,fun h=>by omega,fun h=>by omega⟩ (wf_1 ha)
theorem Oo {d:Nat} {a b:Ex} (ha:WfE d a) (hb:WfE d b):WfE (d+1) (.mk 9 [] 0 [] [] [] [a,b] 0 0):=
 .mk _ _ _ _ _ _ _ _ _ _ ⟨by simp,by simp,fun h=>by omega,fun h=>by omega,fun h=>by omega,fun h=>by omega,fun h=>by omega,fun h=>by omega,fun h=>by omega⟩ (wf_2 ha hb)
theorem wf_check:∀ k:Nat,WfE 8 (Gen.check k)
 | 0=>Ko _ _
 | 1=>Ko _ _
 | 2=>Ko _ _
 | 3=>Xk (by decide) (Yw _ _) (Xk (by decide) (Yw _ _) (Xk (by decide) (Gl _ _) (Gl _ _)))
 | 4=>Xk (by decide) (Yw _ _) (Xk (by decide) (Yw _ _) (wf_str _ _))
 | 5=>.mk _ _ _ _ _ _ _ _ _ _ ⟨by simp,by simp,fun h=>by omega,fun h=>by omega,fun h=>by omega,fun h=>by omega,fun _=>rfl,fun h=>by omega,fun h=>by omega⟩ (wf_3 (Yw _ _) (Xk (by decide) (Yw _ _) (Yw _ _)) (Xk (by decide) (Yw _ _) (Yw _ _)))
 | 6=>.mk _ _ _ _ _ _ _ _ _ _ ⟨by simp,by simp,fun h=>by omega,fun h=>by omega,fun h=>by omega,fun h=>by omega,fun h=>by omega,fun _=>⟨rfl,rfl⟩,fun h=>by omega⟩ (wf_3 (Yw _ _) (Ko _ _) (Xk (by decide) (Yw _ _) (Yw _ _)))
 | 7=>Xk (by decide) (wf_fld _ (wf_wth _)) (wf_fld _ (wf_rec _))
 | 8=>.mk _ _ _ _ _ _ _ _ _ _ ⟨by simp,by simp,fun h=>by omega,fun h=>by omega,fun h=>by omega,fun _=>rfl,fun h=>by omega,fun h=>by omega,fun h=>by omega⟩ (wf_2 (Xk (by decide) (Yw _ _) (Yw _ _)) (Xk (by decide) (Xk (by decide) (Yw _ _) (Gl _ _)) (wf_not (Yw _ _))))
 | 9=>Xk (by decide) (Xk (by decide) (Yw _ _) (Yw _ _)) (wf_str _ _)
 | 10=>Xk (by decide) (Yw _ _) (Xk (by decide) (Yw _ _) (Yw _ _))
 | 11=>Xk (by decide) (Oo (Yw _ _) (Yw _ _)) (Oo (Gl _ _) (Yw _ _))
 | (k+12)=>.mk _ _ _ _ _ _ _ _ _ _ ⟨by simp,by simp,fun h=>by omega,fun h=>by omega,fun h=>by omega,fun h=>by omega,fun h=>by omega,fun h=>by omega,fun h=>by omega⟩ (wf_1 (Dx _ _ _ _ _ (by omega)))
theorem wf_yes (d:Nat):WfE (d+1) Gen.yes:=Ko _ _
end Go.Proofs.YtppbaladeefnkaaGreatDoor
