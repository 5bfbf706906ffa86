import Derived.Test.YtlanplhphiikjaaGreatDoorF01
set_option maxRecDepth 100000
set_option maxHeartbeats 400000000
namespace Go.Proofs
open Go.Shelf
def Tryz.insCol_ren:Go.Shelf.Ren:=⟨fun | 20=>230 | n=>n,fun | 24=>79 | 22=>55 | 3=>3 | 25=>174 | 4=>4 | 0=>0 | n=>n,fun | n=>n⟩
theorem Tryz.insCol:Go.Proofs.SlLaysF0.n20 Tryz.prog Tryz.insCol_ren:={
 mixed:=by kernel_rfl
 f20:=⟨Tryz.f230.name,by decide,Tryz.func230.trans (congrArg some (by kernel_rfl))⟩
 t0:=Tryz.underlying0
 a0:=Tryz.isAgg0
 z0:=Tryz.sizeOf0
 v0:=Tryz.zeroValue0
 t3:=Tryz.underlying3
 a3:=Tryz.isAgg3
 z3:=Tryz.sizeOf3
 v3:=Tryz.zeroValue3
 t4:=Tryz.underlying4
 a4:=Tryz.isAgg4
 z4:=Tryz.sizeOf4
 v4:=Tryz.zeroValue4
 t22:=Tryz.underlying55
 a22:=Tryz.isAgg55
 z22:=Tryz.sizeOf55
 v22:=Tryz.zeroValue55
 t25:=Tryz.underlying174
 a25:=Tryz.isAgg174
 z25:=Tryz.sizeOf174
 v25:=Tryz.zeroValue174 }
def Tryz.laysBS_ren:Go.Shelf.Ren:=⟨fun | 26=>238 | 33=>272 | 34=>273 | 38=>254 | n=>n,fun | 24=>46 | 9=>9 | 3=>3 | 4=>4 | 40=>144 | 0=>0 | n=>n,fun | n=>n⟩
theorem Tryz.laysBS:Go.Proofs.Lays2.n26 Tryz.prog Tryz.laysBS_ren:={
 mixed:=by kernel_rfl
 f26:=Tryz.func238.trans (congrArg some (by kernel_rfl))
 f33:=Tryz.func272.trans (congrArg some (by kernel_rfl))
 f34:=Tryz.func273.trans (congrArg some (by kernel_rfl))
 f38:=Tryz.func254.trans (congrArg some (by kernel_rfl))
 t0:=Tryz.underlying0
 a0:=Tryz.isAgg0
 z0:=Tryz.sizeOf0
 v0:=Tryz.zeroValue0
 t3:=Tryz.underlying3
 a3:=Tryz.isAgg3
 z3:=Tryz.sizeOf3
 v3:=Tryz.zeroValue3
 t4:=Tryz.underlying4
 a4:=Tryz.isAgg4
 z4:=Tryz.sizeOf4
 v4:=Tryz.zeroValue4
 t9:=Tryz.underlying9
 a9:=Tryz.isAgg9
 z9:=Tryz.sizeOf9
 v9:=Tryz.zeroValue9
 t24:=Tryz.underlying46
 a24:=Tryz.isAgg46
 z24:=Tryz.sizeOf46
 v24:=Tryz.zeroValue46
 t40:=Tryz.underlying144
 a40:=Tryz.isAgg144
 z40:=Tryz.sizeOf144
 v40:=Tryz.zeroValue144 }
end Go.Proofs
namespace Go.Proofs.YtlanplhphiikjaaGreatDoor
open Go.RowKit
structure Gz (B:Nat) (w w1:World) (v v1:Value):Prop where
 below:Below B w w1
 size:w<=w1.heap.size
 other:∀ b,b<w.heap.size->some b≠v.ownBlock->w1.heap[b]?=w.heap[b]?
 at':v1.ownBlock=v.ownBlock\/∃ g,v1.ownBlock=some g/\w.heap.size<=g
theorem N6 {B:Nat} {w w1:World} {o:Obj} {v v1:Value} (hg:(w.alloc o).grownBy w1 v.ownBlock) (hv:∀ g,v.ownBlock=some g->B<=g) (hB:B<=w) (hat:v1.ownBlock=v.ownBlock\/v1.ownBlock=some (w.alloc o).heap.size):Gz B w w1 v v1:=by
 have hb:Below B w w1:=((Qz B w).alloc hB o).grown hg (by simp;omega) hv
 refine ⟨hb,hb.size,fun b D G=>?_,?_⟩
 ·rw [hg.block b (by simp;omega) (fun e=>G e),Below.heap_alloc w o b D]
 rcases hat with h | h
 ·exact .inl h
 exact .inr ⟨_,h,Od⟩
theorem Own.move {T:Type} {r:Rd T} {E:TypeId} {S:Nat->Prop} {B B':Nat} {w w':World} {v:Value} {xs:List T} {css:List (List Value)} (h:Own r E S B w v xs css) (hB:B'<=B) (hA:∀ b,b<w.heap.size->(S b\/v.ownBlock=some b)->w'.heap[b]?=w.heap[b]?):Own r E S B' w' v xs css:=by
 refine ⟨⟨h.row.1,?_⟩,h.cs.move (fun b hS D=>hA b D (.inl hS.1)) P8⟩
 rcases h.row.2 with hn | ⟨g,cap,cur,rfl,hg,hh,rest⟩
 ·exact .inl hn
 exact .inr ⟨g,cap,cur,rfl,Oa,(hA g (Array.getElem?_eq_some_iff.1 hh).1 (.inr rfl)).trans hh,rest⟩
theorem Xb {w:World} {B B':Nat} {e e':TypeId} {k k' n n':Nat} {v v':Value} {xs ys:List Value} (h:w.ownsRow B e k v n xs) (h':w.ownsRow B' e' k' v' n' ys) (hne:e≠e') {g:Nat} (hg:v.ownBlock=some g):v'.ownBlock≠some g:=by
 intro D
 rcases h.2 with ⟨rfl,_⟩ | ⟨a,cap,L,rfl,_,hh,_⟩
 ·cases hg
 rcases h'.2 with ⟨rfl,_⟩ | ⟨a',I,J,rfl,_,G,_⟩
 ·cases D
 have e1:a=g:=Q6 hg
 have e2:a'=g:=Q6 D
 subst e1;subst e2
 rw [hh] at G
 injection G with h1
 injection h1 with _ h2
 exact hne h2
section
variable {P:Program} {T:Type}
theorem Yc {r:Rd T} (hk:0<r.k) {ops:Array Oper} {rest:List Oper} {o:Oper} {a:Act} {Q:Exit->Act->World->Prop} (hgd:o.guard=none) (s x:Operand) (t:TypeId)
  (ho:o.op=.call { callee:=.builtin .append,args:=#[s,x],argTypes:=#[t,t] }) (E:TypeId) (i:TypeInfo) (z:Value) (bytes:Nat) (ht:P.underlying t=some (.slice E)) (hi:P.info? E=some i) (hz:i.zero=some z)
  (hsize:i.size=r.k) (hby:i.bytes=bytes) (hzs:z.cells.size=r.k) (hb1:bytes<=1000) (S:Nat->Prop) (B:Nat) (w:World) (v:Value) (xs:List T) (css:List (List Value)) (cs:List Value) (y:T) (hs:a.eval s=v)
  (hO:Own r E S B w v xs css) (hx:a.eval x=.slice (some ⟨w,0,none⟩) 1 1) (hR:r.R (But S v) w cs y) (h1:∀ u ∈ cs,u.oneCell'=true) (n:Nat) (hn:xs.length=n) (hl:n<1000000) (hB:B<=w)
  (h:∀ p cap css' N,Own r E S B N (.slice p (n+1) cap) (xs++[y]) css'->Gz B w N v (.slice p (n+1) cap)->wpList P ops Q rest (a.put o.dst (.slice p (n+1) cap)) N):
  wpList P ops Q (o::rest) a (w.alloc (.cells cs.toArray E)):=by
 subst hn
 have M:=r.len hR
 have L:Below w w (w.alloc (.cells cs.toArray E)):=(Qz _ _).alloc (Q4 _) _
 have I:Own r E S B (w.alloc (.cells cs.toArray E)) v xs css:=hO.below L
 refine wpList_append_own_at (P:=P) (w:=w.alloc (.cells cs.toArray E)) hgd s x t ho B E i z r.k bytes ht hi hz hsize hby hzs hk v xs.length css.flatten hs I.row ⟨w,0,none⟩ 1 1 cs hx (by rw [M,Nat.one_mul]) (fun j u hu=>?_) h1 (by unfold maxLen;omega) (by
   have:=Nat.mul_le_mul (show xs.length+1<=1000000 by omega) hb1
   omega) (by simp;omega) (fun v1 N G D _ J=>?_)
 ·rw [show (⟨w,0,none⟩:Addr).add j=⟨w,j,none⟩ by unfold Addr.add;split <;> simp_all]
  rw [Qk _ _ _ _ _ _ (Qw w _)]
  simpa using hu
 have O:=I.append (Cs.one (r.mono (r.frame hR (.of_below L)) P8)) (ys:=[y]) (dss:=[cs]) (v':=v1) (w2:=N) (by simpa using G) D J
 rcases G.2 with ⟨_,hn⟩ | ⟨g,cap,U,rfl,_⟩
 ·omega
 exact h _ _ _ _ O (N6 D (fun g hg=>(hO.row.lt g hg).1) hB J)
end
end Go.Proofs.YtlanplhphiikjaaGreatDoor
