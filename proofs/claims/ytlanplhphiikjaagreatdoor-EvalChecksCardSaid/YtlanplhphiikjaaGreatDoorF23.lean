import Derived.Test.YtlanplhphiikjaaGreatDoorF20
import Derived.Test.YtlanplhphiikjaaGreatDoorF22
set_option maxRecDepth 100000
set_option maxHeartbeats 400000000
namespace Go.Proofs.YtlanplhphiikjaaGreatDoor
open Go.RowKit Go.Shelf Go.Lib Tryz
def Bp:Rd Rel where
 k:=2
 R S w cs x:=∃ v,cs=[sv x.table,v]/\x.table.length<=1000000/\Sl Zc S w v x.rows/\CapV v x.rows.length
 len h:=by obtain ⟨v,rfl,_⟩:=h;rfl
 frame h hA:=by obtain ⟨v,rfl,D,G,I⟩:=h;exact ⟨v,rfl,D,G.frame hA,I⟩
 mono h hS:=by obtain ⟨v,rfl,D,G,I⟩:=h;exact ⟨v,rfl,D,G.mono hS,I⟩
theorem Hx {S:Nat->Prop} {w:World} {cs:List Value} {x:Rel} (h:Bp.R S w cs x):Yd.R S w cs x:=by obtain ⟨v,rfl,h1,h2,_⟩:=h;exact ⟨v,rfl,h1,h2⟩
theorem Sl.rel {S:Nat->Prop} {w:World} {v:Value} {l:List Rel} (h:Sl Bp S w v l):Sl Yd S w v l:=by
 obtain ⟨p,cap,h1,h2,h3⟩:=h
 refine ⟨p,cap,h1,h2,fun G=>?_⟩
 obtain ⟨b,I,e,hS,hb,hc⟩:=h3 G
 refine ⟨b,I,e,hS,hb,fun i x hx=>?_⟩
 obtain ⟨cs,D,hr⟩:=hc i x hx
 exact ⟨cs,D,Hx hr⟩
theorem Cs.rel {S:Nat->Prop} {w:World} {css:List (List Value)} {l:List Rel} (h:Cs Bp S w css l):Cs Yd S w css l:=⟨h.len,fun i c x hc hx=>Hx (h.R i c x hc hx)⟩
theorem Own.rel {E:TypeId} {S:Nat->Prop} {B:Nat} {w:World} {v:Value} {l:List Rel} {css:List (List Value)} (h:Own Bp E S B w v l css):Own Yd E S B w v l css:=⟨h.row,h.cs.rel⟩
def Ty.kind:Ty->Int | .mk k _ _ _ _=>k
def Ty.name:Ty->Bs | .mk _ s _ _ _=>s
def Hd (t:Ty):Prop:=t.kind=0\/t.kind=1\/t.kind=2
def Ey (u:Sm) (v:Val):Bool:=match atP (fun c=>decide (c.name=v.s)) u.ctors with
 | none=>false
 | some c=>if c.has then (match v.kids with
  | [x]=>x.kind==c.arg.kind
  | _=>false) else decide (v.kids.length=0)
def sumB (us:List Sm) (v:Val) (nm:Bs):Bool:=(v.kind==3)&&(match atP (fun u=>decide (u.name=nm)) us with
 | none=>false
 | some u=>Ey u v)
end Go.Proofs.YtlanplhphiikjaaGreatDoor
