import Derived.Test.YtlanplhphiikjaaGreatDoorF23
set_option maxRecDepth 100000
set_option maxHeartbeats 400000000
namespace Go.Proofs.YtlanplhphiikjaaGreatDoor
open Go.RowKit Go.Shelf Go.Lib Tryz
def Nf (us:List Sm) (v:Val) (t:Ty):Bool:=if t.kind=3 then sumB us v t.name else v.kind==t.kind
section
variable {s:Sc} {l:List Rel} {c i k:Nat} {t:Tbl} {r:Rel} {x u:Val} {rows:List Val} {p:Val->Bool} {code:Int} {K:Val->List Val} {f:Rf} {fs:List Rf}
end
structure GoodS (M:Nat) (v:Val):Prop where
 good:Vj v
 small:(Y0 v).length<=M
theorem GoodS.mono {M N:Nat} {v:Val} (h:GoodS M v) (hM:M<=N):GoodS N v:=⟨h.good,Q7 h.small hM⟩
def SumsOk (us:List Sm):Prop:=∀ u ∈ us,∀ c ∈ u.ctors,Hd c.arg
end Go.Proofs.YtlanplhphiikjaaGreatDoor
