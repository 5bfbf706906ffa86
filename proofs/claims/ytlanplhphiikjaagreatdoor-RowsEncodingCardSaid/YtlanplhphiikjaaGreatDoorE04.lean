import Derived.Test.YtlanplhphiikjaaGreatDoorE03
set_option maxRecDepth 100000
set_option maxHeartbeats 400000000
namespace Go.Proofs.YtlanplhphiikjaaGreatDoor
open Go.RowKit Go.Shelf Go.Lib Tryz
def Srt {T:Type} (cf:T->T->Int) (xs:List T):Prop:=∀ (i j:Nat) (x y:T),i<j->xs[i]?=some x->xs[j]?=some y->0<=cf y x
def CmpOn {T:Type} (P:Program) (g:Nat) (r:Rd T) (S:Nat->Prop) (cf:T->T->Int):Prop:=
 ∀ (W:World) (x y:T) (cx cy:List Value),r.R S W cx x->r.R S W cy y->Calls P g #[cx,cy] W fun e w'=>e=.returned (.int .i64 (cf x y))/\Gr W w'
theorem H8 {α:Type} [Inhabited α] (lt:α->α->Bool) (a b:Nat) (d:Array α) (h:∀ j,a<j->j<b->lt d[j]! d[j - 1]! = false):∀ (k i:Nat),b - i<=k->a<i->Sort.insOuter lt a b i d=d:=by
 intro k
 induction k with
 | zero=>intro i hi _;exact insOuter_stop _ _ _ _ _ Qvu
 | succ k ih=>
  intro i hi ha
  by_cases hlt:i<b
  ·rw [insOuter_go _ _ _ _ _ hlt,insInner_stop _ _ _ _ (.inr (h i ha hlt))]
   exact ih (i+1) Qvu Qvu
  exact insOuter_stop _ _ _ _ _ hlt
theorem Ha {α:Type} [Inhabited α] (enc:α->List Value) (k:Nat) (w:World) (g m:Nat) (dk:Array α) (os:Array Obj) (b:Nat) (hb:b<w) (hne:b≠g):(sortWorldK enc k w g 0 m dk os).heap[b]?=w.heap[b]?:=by
 unfold sortWorldK Sort.putRowK Sort.putRow Sort.mapBlock Sort.grow Sort.ahead
 simp only
 rw [Array.getElem?_append_left (by simpa using hb),Array.getElem?_modify,if_neg (fun e=>hne e.symm)]
def El {T:Type} (r:Rd T) (S:Nat->Prop) (w:World):Type:={ p:List Value × T // r.R S w p.1 p.2 }
section
variable {P:Program} {ρ:Ren} {T:Type}
theorem Qvz (L:SlLaysF0.n20 P ρ) (r:Rd T) (hk0:0<r.k) (E:TypeId) (aE:∀ w,(isAgg (ρ.t 24)).run P w=.ok true w) (zE:∀ w,(Go.sizeOf (ρ.t 24)).run P w=.ok r.k w) (h1:∀ S w cs x,r.R S w cs x->∀ u ∈ cs,u.oneCell'=true)
  (cf:T->T->Int) (g:Nat) (eg:∀ args w,(callFunc g args).run P w=.ok (.enter g args) w) (S:Nat->Prop) (B:Nat) (w:World) (q cap:Nat) (xs:List T) (css:List (List Value)) (hO:Own r E S B w (.slice (some ⟨q,0,none⟩) xs.length cap) xs css)
  (z:List Value) (zt:T) (hz:r.R (But S (.slice (some ⟨q,0,none⟩) xs.length cap)) w z zt)
  (hc:CmpOn P g r (But S (.slice (some ⟨q,0,none⟩) xs.length cap)) cf) (ho:Srt cf xs) (hl:xs.length<=1000000) (a b:Nat) (hab:a<=b) (hb:b<=xs.length):
  Calls P (ρ.f 20) #[Qxa q 0 xs.length cap,a,b,.func (.func g) #[] #[]] w fun e w'=>e=.returned (.tuple #[])/\Gr w w':=by
 haveI:Inhabited (El r (But S (.slice (some ⟨q,0,none⟩) xs.length cap)) w):=⟨⟨(z,zt),hz⟩⟩
 obtain ⟨l,O,N⟩:=Hj xs.length (fun i (e:El r (But S (.slice (some ⟨q,0,none⟩) xs.length cap)) w)=>css[i]?=some e.1.1/\xs[i]?=some e.1.2) (fun i V=>by
  have h1:=Qx (l:=css) (i:=i) (by rw [hO.cs.len];exact V)
  have U:=Qx V
  exact ⟨⟨(_,_),hO.cs.R i _ _ h1 U⟩,h1,U⟩)
 have D:l.toArray.size=xs.length:=by simpa using O
 have A:∀ i,i<xs.length->css[i]?=some (l.toArray[i]!).1.1/\xs[i]?=some (l.toArray[i]!).1.2:=by
  intro i V
  refine N i _ ?_
  rw [Qx Qvu]
  simp [O,V]
 have hq:=(hO.row.lt q rfl).2
 have hH:Sort.HoldsK (fun e:El r (But S (.slice (some ⟨q,0,none⟩) xs.length cap)) w=>e.1.1) r.k w q 0 l.toArray:=by
  intro j Y
  rw [Sort.size_flatK,D] at Y
  have Z:j / r.k<xs.length:=Nat.div_lt_of_lt_mul (by rwa [Nat.mul_comm])
  have hg:=A _ Z
  refine ⟨?_,by rw [Nat.zero_add];exact hO.row.frozenAt j⟩
  rw [Nat.zero_add,hO.row.cellAt j Y]
  have J:j % r.k<(l.toArray[j / r.k]!).1.1.length:=by rw [r.len (l.toArray[j / r.k]!).2];exact Nat.mod_lt _ hk0
  have:=V9 hO.cs.all hg.1 (Qx J)
  rw [Nat.div_add_mod' j r.k] at this
  rw [this,Sort.get_flatK _ _ _ _ (by rw [D];exact Y),getElem!_pos ((l.toArray[j / r.k]!).1.1) (j % r.k) J]
  rfl
 have M:CmpLays P g #[] (fun e:El r (But S (.slice (some ⟨q,0,none⟩) xs.length cap)) w=>e.1.1) r.k (fun x y=>cf x.1.2 y.1.2) q 0 l.toArray.size w:=by
  intro m os dk _ x y
  have hA:Vz (But S (.slice (some ⟨q,0,none⟩) xs.length cap)) w (sortWorldK (fun e:El r (But S (.slice (some ⟨q,0,none⟩) xs.length cap)) w=>e.1.1) r.k w q 0 m dk os):=fun b hb aA=>Ha _ _ _ _ _ _ _ b aA (fun e=>hb.2 (by rw [e];rfl))
  exact hc _ x.1.2 y.1.2 _ _ (r.frame x.2 hA) (r.frame y.2 hA)
 have I:=AnyQ.insertionSortCmpFunc (ρ:=ρ) L r.k aE zE (fun e:El r (But S (.slice (some ⟨q,0,none⟩) xs.length cap)) w=>e.1.1) (fun e=>r.len e.2) (fun e=>h1 _ _ _ _ e.2) (fun x y=>cf x.1.2 y.1.2) g #[] q 0 cap a b l.toArray w eg M hH hq hab (by rw [D];exact hb) (by rw [D];omega)
 rw [D] at I
 refine I.mono ?_
 rintro e w' ⟨rfl,n,os,rfl⟩
 refine ⟨rfl,?_⟩
 have hs:Sort.insertionSort (ltOf fun (x y:El r (But S (.slice (some ⟨q,0,none⟩) xs.length cap)) w)=>cf x.1.2 y.1.2) l.toArray a b=l.toArray:=by
  refine H8 _ _ _ _ (fun j aB aC=>?_) _ _ (Q9 _) Qvu
  have U:=(A j Qvu).2
  have h3:=(A (j - 1) Qvu).2
  have:=ho (j - 1) j _ _ Qvu h3 U
  simp only [ltOf,decide_eq_false_iff_not]
  omega
 rw [hs]
 unfold sortWorldK
 rw [Sort.putRowK_self _ _ _ _ _ _ (Sort.holdsK_ahead _ _ _ _ _ _ _ hH)]
 exact ⟨n,os,rfl⟩
end
open Go.RowKit
structure Fg (B:Nat) (w w1:World) (v v1:Value):Prop where
 below:Below B w w1
 size:w<=w1.heap.size
 other:∀ b,b<w.heap.size->some b≠v.ownBlock->w1.heap[b]?=w.heap[b]?
 at':v1.ownBlock=v.ownBlock\/∃ g,v1.ownBlock=some g/\w.heap.size<=g
theorem Ov {B:Nat} {w w1:World} {o:Obj} {v v1:Value} (hg:(w.alloc o).grownBy w1 v.ownBlock) (hv:∀ g,v.ownBlock=some g->B<=g) (hB:B<=w) (hat:v1.ownBlock=v.ownBlock\/v1.ownBlock=some (w.alloc o).heap.size):Fg B w w1 v v1:=by
 have hb:Below B w w1:=((Qz B w).alloc hB o).grown hg (by simp;omega) hv
 refine ⟨hb,hb.size,fun b A D=>?_,?_⟩
 ·rw [hg.block b (by simp;omega) (fun e=>D e),Below.heap_alloc w o b A]
 rcases hat with h | h
 ·exact .inl h
 exact .inr ⟨_,h,Qxz⟩
theorem Own.move {T:Type} {r:Rd T} {E:TypeId} {S:Nat->Prop} {B B':Nat} {w w':World} {v:Value} {xs:List T} {css:List (List Value)} (h:Own r E S B w v xs css) (hB:B'<=B) (hA:∀ b,b<w.heap.size->(S b\/v.ownBlock=some b)->w'.heap[b]?=w.heap[b]?):Own r E S B' w' v xs css:=by
 refine ⟨⟨h.row.1,?_⟩,h.cs.move (fun b hS A=>hA b A (.inl hS.1)) Qyv⟩
 rcases h.row.2 with hn | ⟨g,cap,cur,rfl,hg,hh,rest⟩
 ·exact .inl hn
 exact .inr ⟨g,cap,cur,rfl,Qvu,(hA g (Array.getElem?_eq_some_iff.1 hh).1 (.inr rfl)).trans hh,rest⟩
theorem Yp {w:World} {B B':Nat} {e e':TypeId} {k k' n n':Nat} {v v':Value} {xs ys:List Value} (h:w.ownsRow B e k v n xs) (h':w.ownsRow B' e' k' v' n' ys) (hne:e≠e') {g:Nat} (hg:v.ownBlock=some g):v'.ownBlock≠some g:=by
 intro A
 rcases h.2 with ⟨rfl,_⟩ | ⟨a,cap,M,rfl,_,hh,_⟩
 ·cases hg
 rcases h'.2 with ⟨rfl,_⟩ | ⟨a',I,J,rfl,_,D,_⟩
 ·cases A
 have e1:a=g:=Qb hg
 have e2:a'=g:=Qb A
 subst e1;subst e2
 rw [hh] at D
 injection D with h1
 injection h1 with _ h2
 exact hne h2
section
variable {P:Program} {T:Type}
theorem Yf {r:Rd T} (hk:0<r.k) {ops:Array Oper} {rest:List Oper} {o:Oper} {a:Act} {Q:Exit->Act->World->Prop} (hgd:o.guard=none) (s x:Operand) (t:TypeId)
  (ho:o.op=.call { callee:=.builtin .append,args:=#[s,x],argTypes:=#[t,t] }) (E:TypeId) (i:TypeInfo) (z:Value) (bytes:Nat) (ht:P.underlying t=some (.slice E)) (hi:P.info? E=some i) (hz:i.zero=some z)
  (hsize:i.size=r.k) (hby:i.bytes=bytes) (hzs:z.cells.size=r.k) (hb1:bytes<=1000) (S:Nat->Prop) (B:Nat) (w:World) (v:Value) (xs:List T) (css:List (List Value)) (cs:List Value) (y:T) (hs:a.eval s=v)
  (hO:Own r E S B w v xs css) (hx:a.eval x=.slice (some ⟨w,0,none⟩) 1 1) (hR:r.R (But S v) w cs y) (h1:∀ u ∈ cs,u.oneCell'=true) (n:Nat) (hn:xs.length=n) (hl:n<1000000) (hB:B<=w)
  (h:∀ p cap css' O,Own r E S B O (.slice p (n+1) cap) (xs++[y]) css'->Fg B w O v (.slice p (n+1) cap)->wpList P ops Q rest (a.put o.dst (.slice p (n+1) cap)) O):
  wpList P ops Q (o::rest) a (w.alloc (.cells cs.toArray E)):=by
 subst hn
 have N:=r.len hR
 have M:Below w w (w.alloc (.cells cs.toArray E)):=(Qz _ _).alloc (Q9 _) _
 have I:Own r E S B (w.alloc (.cells cs.toArray E)) v xs css:=hO.below M
 refine wpList_append_own_at (P:=P) (w:=w.alloc (.cells cs.toArray E)) hgd s x t ho B E i z r.k bytes ht hi hz hsize hby hzs hk v xs.length css.flatten hs I.row ⟨w,0,none⟩ 1 1 cs hx (by rw [N,Nat.one_mul]) (fun j u hu=>?_) h1 (by unfold maxLen;omega) (by
   have:=Nat.mul_le_mul (show xs.length+1<=1000000 by omega) hb1
   omega) (by simp;omega) (fun v1 O D A _ J=>?_)
 ·rw [show (⟨w,0,none⟩:Addr).add j=⟨w,j,none⟩ by unfold Addr.add;split <;> simp_all]
  rw [Qk _ _ _ _ _ _ (Qw w _)]
  simpa using hu
 have U:=I.append (Cs.one (r.mono (r.frame hR (.of_below M)) Qyv)) (ys:=[y]) (dss:=[cs]) (v':=v1) (w2:=O) (by simpa using D) A J
 rcases D.2 with ⟨_,hn⟩ | ⟨g,cap,V,rfl,_⟩
 ·omega
 exact h _ _ _ _ U (Ov A (fun g hg=>(hO.row.lt g hg).1) hB J)
end
end Go.Proofs.YtlanplhphiikjaaGreatDoor
