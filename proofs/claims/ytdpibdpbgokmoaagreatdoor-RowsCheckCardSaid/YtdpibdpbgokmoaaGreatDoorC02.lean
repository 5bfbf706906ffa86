import Derived.Test.YtdpibdpbgokmoaaGreatDoorC01
import Derived.Test.YtdpibdpbgokmoaaGreatDoorProg
set_option maxRecDepth 100000
set_option maxHeartbeats 400000000
namespace Go.Proofs.YtdpibdpbgokmoaaGreatDoor
open Go.RowKit
theorem Bh {α:Type} (n:Nat) (Q:Nat→α→Prop) (h:∀ i,i<n→∃ a,Q i a):∃ l:List α,l.length=n∧∀ i a,l[i]?=some a→Q i a:=by
 induction n with
 | zero=>exact ⟨[],rfl,fun i a h=>by simp at h⟩
 | succ n ih=>
  obtain ⟨l,hl,hq⟩:=ih (fun i hi=>h i Qqj)
  obtain ⟨a,ha⟩:=h n Qqj
  refine ⟨l++[a],by simp [hl],fun i b hb=>?_⟩
  by_cases hi:i<l.length
  ·rw [List.getElem?_append_left hi] at hb;exact hq i b hb
  rw [Zx Qqj] at hb
  have h0:i - l.length=0:=by
   have:=(Qj hb).1
   simp at this;omega
  rw [h0] at hb
  simp at hb
  subst hb
  have:i=n:=Qqj
  rw [this];exact ha
theorem Vu {k:Nat} {css:List (List Value)} (h:∀ c ∈ css,c.length=k):css.flatten.length=css.length*k:=by
 induction css with
 | nil=>simp
 | cons c css ih=>
  rw [List.flatten_cons,Ql,h c Qqk,ih (fun d hd=>h d (by simp [hd])),List.length_cons,Nat.add_mul]
  omega
theorem V6 {k:Nat} {css:List (List Value)} (h:∀ c ∈ css,c.length=k) {i j:Nat} {c:List Value} {u:Value} (hc:css[i]?=some c) (hu:c[j]?=some u):css.flatten[i*k+j]?=some u:=by
 induction css generalizing i with
 | nil=>simp at hc
 | cons d css ih=>
  have hd:=h d Qqk
  rw [List.flatten_cons]
  cases i with
  | zero=>
   simp at hc;subst hc
   have hj:j<d.length:=(Qj hu).1
   rw [Nat.zero_mul,Nat.zero_add,List.getElem?_append_left hj];exact hu
  | succ i=>
   have:=ih (fun e he=>h e (by simp [he])) (i:=i) (by simpa using hc)
   rw [Zx (by rw [hd,Nat.add_mul];omega),hd]
   rw [show (i+1)*k+j - k=i*k+j by rw [Nat.add_mul];omega]
   exact this
theorem flat_at {k:Nat} (hk:0<k) {css:List (List Value)} (h:∀ c ∈ css,c.length=k) {m:Nat} {u:Value} (hu:css.flatten[m]?=some u):∃ c,css[m / k]?=some c∧c[m % k]?=some u:=by
 have hm:m<css.length*k:=by rw [← Vu h];exact (Qj hu).1
 have hi:m / k<css.length:=Nat.div_lt_of_lt_mul (by rwa [Nat.mul_comm])
 have hc:=Qx hi
 have hl:=h _ (Qd hi)
 have hj:m % k<(css[m / k]).length:=by rw [hl];exact Nat.mod_lt _ hk
 refine ⟨_,hc,?_⟩
 have:=V6 h hc (Qx hj)
 rw [Nat.div_add_mod' m k] at this
 rw [Qx hj,← hu,this]
structure Cs {T:Type} (r:Rd T) (S:Nat→Prop) (w:World) (css:List (List Value)) (xs:List T):Prop where
 len:css.length=xs.length
 R:∀ (i:Nat) (c:List Value) (x:T),css[i]?=some c→xs[i]?=some x→r.R S w c x
theorem Cs.all {T:Type} {r:Rd T} {S:Nat→Prop} {w:World} {css:List (List Value)} {xs:List T} (h:Cs r S w css xs):∀ c ∈ css,c.length=r.k:=by
 intro c hc
 obtain ⟨i,hi⟩:=Zk hc
 have A:=(Qj hi).1
 exact r.len (h.R i c _ hi (Qx (by rw [← h.len];exact A)))
theorem Cs.flat {T:Type} {r:Rd T} {S:Nat→Prop} {w:World} {css:List (List Value)} {xs:List T} (h:Cs r S w css xs):css.flatten.length=xs.length*r.k:=by rw [Vu h.all,h.len]
theorem Cs.move {T:Type} {r:Rd T} {S S':Nat→Prop} {w w':World} {css:List (List Value)} {xs:List T} (h:Cs r S w css xs) (hA:Ui S w w') (hS:∀ b,b<w.heap.size→S b→S' b):Cs r S' w' css xs:=
 ⟨h.len,fun i c x hc hx=>r.mono (r.frame (r.mono (S':=fun b=>S b∧S' b) (h.R i c x hc hx) (fun b hb h=>⟨h,hS b hb h⟩)) (fun b hb=>hA b hb.1)) (fun _ _ h=>h.2)⟩
theorem Cs.app {T:Type} {r:Rd T} {S:Nat→Prop} {w:World} {css dss:List (List Value)} {xs ys:List T} (h:Cs r S w css xs) (g:Cs r S w dss ys):Cs r S w (css++dss) (xs++ys):=by
 refine ⟨by rw [Ql,Ql,h.len,g.len],fun i c x A D=>?_⟩
 by_cases hi:i<css.length
 ·rw [List.getElem?_append_left hi] at A
  rw [List.getElem?_append_left (by rw [← h.len];exact hi)] at D
  exact h.R i c x A D
 rw [Zx Qqj] at A
 rw [Zx (by rw [← h.len];omega),← h.len] at D
 exact g.R _ c x A D
theorem Cs.one {T:Type} {r:Rd T} {S:Nat→Prop} {w:World} {c:List Value} {x:T} (h:r.R S w c x):Cs r S w [c] [x]:=by
 refine ⟨rfl,fun i c' x' A hx=>?_⟩
 cases i with
 | zero=>simp at A hx;subst A;subst hx;exact h
 | succ i=>simp at A
theorem Cs.nil {T:Type} (r:Rd T) (S:Nat→Prop) (w:World):Cs r S w [] []:=⟨rfl,fun i c x hc _=>by simp at hc⟩
theorem Sl.css {T:Type} {r:Rd T} (hk:0<r.k) {S:Nat→Prop} {w:World} {v:Value} {xs:List T} (h:Sl r S w v xs):
  ∃ p cap css,v=.slice p xs.length cap∧Cs r S w css xs∧(xs≠[]→∃ b off,p=some ⟨b,off,none⟩∧S b∧b<w.heap.size∧∀ j u,css.flatten[j]?=some u→w.cell? ⟨b,off+j,none⟩=some u):=by
 obtain ⟨p,cap,h1,h2,h3⟩:=h
 by_cases hne:xs=[]
 ·subst hne;exact ⟨p,cap,[],h1,Cs.nil _ _ _,fun h=>absurd rfl h⟩
 obtain ⟨b,off,e,hS,hb,hc⟩:=h3 hne
 obtain ⟨css,hl,hq⟩:=Bh xs.length (fun i cs=>(∀ j u,cs[j]?=some u→w.cell? ⟨b,off+i*r.k+j,none⟩=some u)∧∀ x,xs[i]?=some x→r.R S w cs x) (fun i hi=>by
  obtain ⟨cs,h4,h5⟩:=hc i _ (Qx hi)
  exact ⟨cs,h4,fun x G=>by rw [Qx hi] at G;cases G;exact h5⟩)
 have D:Cs r S w css xs:=⟨hl,fun i c x A G=>(hq i c A).2 x G⟩
 refine ⟨p,cap,css,h1,D,fun _=>⟨b,off,e,hS,hb,fun j u hu=>?_⟩⟩
 obtain ⟨c,A,I⟩:=flat_at hk D.all hu
 have:=(hq _ c A).1 _ u I
 rwa [Nat.add_assoc,Nat.div_add_mod' j r.k] at this
theorem Sl.of_css {T:Type} {r:Rd T} {S:Nat→Prop} {w:World} {xs:List T} {b off cap:Nat} {css:List (List Value)} (hl:xs.length≤1000000) (h:Cs r S w css xs) (hS:S b) (hb:b<w)
  (hc:∀ j u,css.flatten[j]?=some u→w.cell? ⟨b,off+j,none⟩=some u):Sl r S w (.slice (some ⟨b,off,none⟩) xs.length cap) xs:=by
 refine ⟨_,cap,rfl,hl,fun _=>⟨b,off,rfl,hS,hb,fun i x hx=>?_⟩⟩
 have hi:i<css.length:=by rw [h.len];exact (Qj hx).1
 refine ⟨css[i],fun j u hu=>?_,h.R i _ x (Qx hi) hx⟩
 have:=hc _ u (V6 h.all (Qx hi) hu)
 rwa [← Nat.add_assoc] at this
def But (S:Nat→Prop) (v:Value):Nat→Prop:=fun b=>S b∧some b≠v.ownBlock
structure Own {T:Type} (r:Rd T) (E:TypeId) (S:Nat→Prop) (B:Nat) (w:World) (v:Value) (xs:List T) (css:List (List Value)):Prop where
 row:w.ownsRow B E r.k v xs.length css.flatten
 cs:Cs r (But S v) w css xs
theorem Own.nil {T:Type} (r:Rd T) (E:TypeId) (S:Nat→Prop) (B:Nat) (w:World):Own r E S B w (.slice none 0 0) [] []:=⟨by simpa using World.ownsRow_nil w B E r.k,Cs.nil _ _ _⟩
theorem Kf {w w':World} {B:Nat} {e:TypeId} {sz n:Nat} {v:Value} {xs:List Value} (h:w.ownsRow B e sz v n xs) (hb:Below w w w'):w'.ownsRow B e sz v n xs:=by
 refine ⟨h.1,?_⟩
 rcases h.2 with hn | ⟨g,cap,cur,rfl,hB,hg,rest⟩
 ·exact .inl hn
 refine .inr ⟨g,cap,cur,rfl,hB,?_,rest⟩
 rw [hb.block g (Array.getElem?_eq_some_iff.1 hg).1];exact hg
theorem Own.below {T:Type} {r:Rd T} {E:TypeId} {S:Nat→Prop} {B:Nat} {w w':World} {v:Value} {xs:List T} {css:List (List Value)} (h:Own r E S B w v xs css) (hb:Below w w w'):Own r E S B w' v xs css:=
 ⟨Kf h.row hb,h.cs.move (.of_below hb) Qzx⟩
theorem Own.append {T:Type} {r:Rd T} {E:TypeId} {S:Nat→Prop} {B:Nat} {W w2:World} {v v':Value} {xs ys:List T} {css dss:List (List Value)} (h:Own r E S B W v xs css) (hd:Cs r (But S v) W dss ys)
  (hown:w2.ownsRow B E r.k v' (xs.length+ys.length) (css.flatten++dss.flatten)) (hgrow:W.grownBy w2 v.ownBlock) (hat:v'.ownBlock=v.ownBlock∨v'.ownBlock=some W.heap.size):Own r E S B w2 v' (xs++ys) (css++dss):=by
 refine ⟨by rw [Ql,List.flatten_append];exact hown,?_⟩
 have hc:=h.cs.app hd
 have h1:Cs r (fun b=>But S v b∧But S v' b) W (css++dss) (xs++ys):=hc.move (.refl _ _) (fun b hb h=>⟨h,h.1,by
  rcases hat with e | e
  ·rw [e];exact h.2
  rw [e];intro e2;have:=Qb e2;omega⟩)
 exact h1.move (fun b hb A=>hgrow.block b A hb.1.2) (fun _ _ h=>h.2)
theorem E7 {w:World} {g:Nat} {cur:Array Value} {E:TypeId} {n:Nat} {ys:List Value} (hg:w.heap[g]?=some (.cells cur E (0,0))) (ht:cur.toList.take n=ys) {j:Nat} {u:Value} (hu:ys[j]?=some u):w.cell? ⟨g,j,none⟩=some u:=by
 rw [Qk w g j cur E (0,0) hg]
 rw [← ht,List.getElem?_take] at hu
 split at hu
 ·simpa using hu
 cases hu
theorem Own.sl {T:Type} {r:Rd T} {E:TypeId} {S S':Nat→Prop} {B:Nat} {w:World} {v:Value} {xs:List T} {css:List (List Value)} (h:Own r E S B w v xs css) (hl:xs.length≤1000000)
  (h1:∀ b,B≤b→S' b) (h2:∀ b,b<w.heap.size→S b→S' b):Sl r S' w v xs:=by
 rcases h.row.2 with ⟨rfl,h0⟩ | ⟨g,cap,A,rfl,hB,hg,_,_,_,ht⟩
 ·rw [Zy h0];exact Sl.nil _ _ _
 refine Sl.of_css (css:=css) hl (h.cs.move (.refl _ _) (fun b hb h=>h2 b hb h.1)) (h1 g hB) (Array.getElem?_eq_some_iff.1 hg).1 (fun j u hu=>?_)
 rw [Nat.zero_add];exact E7 hg ht hu
end Go.Proofs.YtdpibdpbgokmoaaGreatDoor
namespace Go.Proofs
open Go.Shelf
def Tryz.ixRel_ren:Go.Shelf.Ren:=⟨fun | 6=>98 | n=>n,fun | 22=>28 | 23=>70 | 25=>130 | 3=>3 | 0=>0 | 4=>4 | n=>n,fun | n=>n⟩
theorem Tryz.ixRel:Go.Proofs.SlLaysH0.n6 Tryz.prog Tryz.ixRel_ren:={
 mixed:=by kernel_rfl
 f6:=⟨Tryz.f98.name,by decide,Tryz.func98.trans (congrArg some (by kernel_rfl))⟩
 t0:=Tryz.underlying0
 a0:=Tryz.isAgg0
 z0:=Tryz.sizeOf0
 v0:=Tryz.zeroValue0
 t3:=Tryz.underlying3
 a3:=Tryz.isAgg3
 z3:=Tryz.sizeOf3
 v3:=Tryz.zeroValue3
 t4:=Tryz.underlying4
 a4:=Tryz.isAgg4
 z4:=Tryz.sizeOf4
 v4:=Tryz.zeroValue4
 t22:=Tryz.underlying28
 a22:=Tryz.isAgg28
 z22:=Tryz.sizeOf28
 v22:=Tryz.zeroValue28
 t25:=Tryz.underlying130
 a25:=Tryz.isAgg130
 z25:=Tryz.sizeOf130
 v25:=Tryz.zeroValue130 }
def Tryz.ixVal_ren:Go.Shelf.Ren:=⟨fun | 6=>59 | n=>n,fun | 22=>34 | 23=>36 | 25=>79 | 3=>3 | 0=>0 | 4=>4 | n=>n,fun | n=>n⟩
theorem Tryz.ixVal:Go.Proofs.SlLaysH0.n6 Tryz.prog Tryz.ixVal_ren:={
 mixed:=by kernel_rfl
 f6:=⟨Tryz.f59.name,by decide,Tryz.func59.trans (congrArg some (by kernel_rfl))⟩
 t0:=Tryz.underlying0
 a0:=Tryz.isAgg0
 z0:=Tryz.sizeOf0
 v0:=Tryz.zeroValue0
 t3:=Tryz.underlying3
 a3:=Tryz.isAgg3
 z3:=Tryz.sizeOf3
 v3:=Tryz.zeroValue3
 t4:=Tryz.underlying4
 a4:=Tryz.isAgg4
 z4:=Tryz.sizeOf4
 v4:=Tryz.zeroValue4
 t22:=Tryz.underlying34
 a22:=Tryz.isAgg34
 z22:=Tryz.sizeOf34
 v22:=Tryz.zeroValue34
 t25:=Tryz.underlying79
 a25:=Tryz.isAgg79
 z25:=Tryz.sizeOf79
 v25:=Tryz.zeroValue79 }
def Tryz.ixSum_ren:Go.Shelf.Ren:=⟨fun | 6=>118 | n=>n,fun | 22=>23 | 23=>61 | 25=>144 | 3=>3 | 0=>0 | 4=>4 | n=>n,fun | n=>n⟩
theorem Tryz.ixSum:Go.Proofs.SlLaysH0.n6 Tryz.prog Tryz.ixSum_ren:={
 mixed:=by kernel_rfl
 f6:=⟨Tryz.f118.name,by decide,Tryz.func118.trans (congrArg some (by kernel_rfl))⟩
 t0:=Tryz.underlying0
 a0:=Tryz.isAgg0
 z0:=Tryz.sizeOf0
 v0:=Tryz.zeroValue0
 t3:=Tryz.underlying3
 a3:=Tryz.isAgg3
 z3:=Tryz.sizeOf3
 v3:=Tryz.zeroValue3
 t4:=Tryz.underlying4
 a4:=Tryz.isAgg4
 z4:=Tryz.sizeOf4
 v4:=Tryz.zeroValue4
 t22:=Tryz.underlying23
 a22:=Tryz.isAgg23
 z22:=Tryz.sizeOf23
 v22:=Tryz.zeroValue23
 t25:=Tryz.underlying144
 a25:=Tryz.isAgg144
 z25:=Tryz.sizeOf144
 v25:=Tryz.zeroValue144 }
def Tryz.ixCtor_ren:Go.Shelf.Ren:=⟨fun | 6=>120 | n=>n,fun | 22=>59 | 23=>58 | 25=>146 | 3=>3 | 0=>0 | 4=>4 | n=>n,fun | n=>n⟩
theorem Tryz.ixCtor:Go.Proofs.SlLaysH0.n6 Tryz.prog Tryz.ixCtor_ren:={
 mixed:=by kernel_rfl
 f6:=⟨Tryz.f120.name,by decide,Tryz.func120.trans (congrArg some (by kernel_rfl))⟩
 t0:=Tryz.underlying0
 a0:=Tryz.isAgg0
 z0:=Tryz.sizeOf0
 v0:=Tryz.zeroValue0
 t3:=Tryz.underlying3
 a3:=Tryz.isAgg3
 z3:=Tryz.sizeOf3
 v3:=Tryz.zeroValue3
 t4:=Tryz.underlying4
 a4:=Tryz.isAgg4
 z4:=Tryz.sizeOf4
 v4:=Tryz.zeroValue4
 t22:=Tryz.underlying59
 a22:=Tryz.isAgg59
 z22:=Tryz.sizeOf59
 v22:=Tryz.zeroValue59
 t25:=Tryz.underlying146
 a25:=Tryz.isAgg146
 z25:=Tryz.sizeOf146
 v25:=Tryz.zeroValue146 }
def Tryz.cfVal_ren:Go.Shelf.Ren:=⟨fun | 8=>57 | 6=>59 | n=>n,fun | 22=>34 | 23=>36 | 25=>79 | 4=>4 | 3=>3 | 0=>0 | n=>n,fun | n=>n⟩
theorem Tryz.cfVal:Go.Proofs.SlLaysH0.n8 Tryz.prog Tryz.cfVal_ren:={
 mixed:=by kernel_rfl
 f6:=⟨Tryz.f59.name,by decide,Tryz.func59.trans (congrArg some (by kernel_rfl))⟩
 f8:=⟨Tryz.f57.name,by decide,Tryz.func57.trans (congrArg some (by kernel_rfl))⟩
 t0:=Tryz.underlying0
 a0:=Tryz.isAgg0
 z0:=Tryz.sizeOf0
 v0:=Tryz.zeroValue0
 t3:=Tryz.underlying3
 a3:=Tryz.isAgg3
 z3:=Tryz.sizeOf3
 v3:=Tryz.zeroValue3
 t4:=Tryz.underlying4
 a4:=Tryz.isAgg4
 z4:=Tryz.sizeOf4
 v4:=Tryz.zeroValue4
 t22:=Tryz.underlying34
 a22:=Tryz.isAgg34
 z22:=Tryz.sizeOf34
 v22:=Tryz.zeroValue34
 t25:=Tryz.underlying79
 a25:=Tryz.isAgg79
 z25:=Tryz.sizeOf79
 v25:=Tryz.zeroValue79 }
def Tryz.cfExpr_ren:Go.Shelf.Ren:=⟨fun | 8=>129 | 6=>167 | n=>n,fun | 22=>44 | 23=>46 | 25=>119 | 4=>4 | 3=>3 | 0=>0 | n=>n,fun | n=>n⟩
theorem Tryz.cfExpr:Go.Proofs.SlLaysH0.n8 Tryz.prog Tryz.cfExpr_ren:={
 mixed:=by kernel_rfl
 f6:=⟨Tryz.f167.name,by decide,Tryz.func167.trans (congrArg some (by kernel_rfl))⟩
 f8:=⟨Tryz.f129.name,by decide,Tryz.func129.trans (congrArg some (by kernel_rfl))⟩
 t0:=Tryz.underlying0
 a0:=Tryz.isAgg0
 z0:=Tryz.sizeOf0
 v0:=Tryz.zeroValue0
 t3:=Tryz.underlying3
 a3:=Tryz.isAgg3
 z3:=Tryz.sizeOf3
 v3:=Tryz.zeroValue3
 t4:=Tryz.underlying4
 a4:=Tryz.isAgg4
 z4:=Tryz.sizeOf4
 v4:=Tryz.zeroValue4
 t22:=Tryz.underlying44
 a22:=Tryz.isAgg44
 z22:=Tryz.sizeOf44
 v22:=Tryz.zeroValue44
 t25:=Tryz.underlying119
 a25:=Tryz.isAgg119
 z25:=Tryz.sizeOf119
 v25:=Tryz.zeroValue119 }
def Tryz.clVal_ren:Go.Shelf.Ren:=⟨fun | 41=>49 | n=>n,fun | 22=>34 | 23=>36 | 4=>4 | n=>n,fun | n=>n⟩
theorem Tryz.clVal:Go.Proofs.SlLaysE0.n41 Tryz.prog Tryz.clVal_ren:={
 mixed:=by kernel_rfl
 f41:=⟨Tryz.f49.name,by decide,Tryz.func49.trans (congrArg some (by kernel_rfl))⟩
 t4:=Tryz.underlying4
 a4:=Tryz.isAgg4
 z4:=Tryz.sizeOf4
 v4:=Tryz.zeroValue4
 t22:=Tryz.underlying34
 a22:=Tryz.isAgg34
 z22:=Tryz.sizeOf34
 v22:=Tryz.zeroValue34 }
def Tryz.clCol_ren:Go.Shelf.Ren:=⟨fun | 41=>76 | n=>n,fun | 22=>42 | 23=>64 | 4=>4 | n=>n,fun | n=>n⟩
theorem Tryz.clCol:Go.Proofs.SlLaysE0.n41 Tryz.prog Tryz.clCol_ren:={
 mixed:=by kernel_rfl
 f41:=⟨Tryz.f76.name,by decide,Tryz.func76.trans (congrArg some (by kernel_rfl))⟩
 t4:=Tryz.underlying4
 a4:=Tryz.isAgg4
 z4:=Tryz.sizeOf4
 v4:=Tryz.zeroValue4
 t22:=Tryz.underlying42
 a22:=Tryz.isAgg42
 z22:=Tryz.sizeOf42
 v22:=Tryz.zeroValue42 }
def Tryz.clStr_ren:Go.Shelf.Ren:=⟨fun | 41=>162 | n=>n,fun | 22=>33 | 23=>9 | 4=>4 | n=>n,fun | n=>n⟩
theorem Tryz.clStr:Go.Proofs.SlLaysE0.n41 Tryz.prog Tryz.clStr_ren:={
 mixed:=by kernel_rfl
 f41:=⟨Tryz.f162.name,by decide,Tryz.func162.trans (congrArg some (by kernel_rfl))⟩
 t4:=Tryz.underlying4
 a4:=Tryz.isAgg4
 z4:=Tryz.sizeOf4
 v4:=Tryz.zeroValue4
 t22:=Tryz.underlying33
 a22:=Tryz.isAgg33
 z22:=Tryz.sizeOf33
 v22:=Tryz.zeroValue33 }
def Tryz.clRel_ren:Go.Shelf.Ren:=⟨fun | 41=>100 | n=>n,fun | 22=>28 | 23=>70 | 4=>4 | n=>n,fun | n=>n⟩
theorem Tryz.clRel:Go.Proofs.SlLaysE0.n41 Tryz.prog Tryz.clRel_ren:={
 mixed:=by kernel_rfl
 f41:=⟨Tryz.f100.name,by decide,Tryz.func100.trans (congrArg some (by kernel_rfl))⟩
 t4:=Tryz.underlying4
 a4:=Tryz.isAgg4
 z4:=Tryz.sizeOf4
 v4:=Tryz.zeroValue4
 t22:=Tryz.underlying28
 a22:=Tryz.isAgg28
 z22:=Tryz.sizeOf28
 v22:=Tryz.zeroValue28 }
def Tryz.clRef_ren:Go.Shelf.Ren:=⟨fun | 41=>165 | n=>n,fun | 22=>43 | 23=>67 | 4=>4 | n=>n,fun | n=>n⟩
theorem Tryz.clRef:Go.Proofs.SlLaysE0.n41 Tryz.prog Tryz.clRef_ren:={
 mixed:=by kernel_rfl
 f41:=⟨Tryz.f165.name,by decide,Tryz.func165.trans (congrArg some (by kernel_rfl))⟩
 t4:=Tryz.underlying4
 a4:=Tryz.isAgg4
 z4:=Tryz.sizeOf4
 v4:=Tryz.zeroValue4
 t22:=Tryz.underlying43
 a22:=Tryz.isAgg43
 z22:=Tryz.sizeOf43
 v22:=Tryz.zeroValue43 }
def Tryz.clByte_ren:Go.Shelf.Ren:=⟨fun | 41=>161 | n=>n,fun | 22=>116 | 23=>5 | 4=>4 | n=>n,fun | n=>n⟩
theorem Tryz.clByte:Go.Proofs.SlLaysE0.n41 Tryz.prog Tryz.clByte_ren:={
 mixed:=by kernel_rfl
 f41:=⟨Tryz.f161.name,by decide,Tryz.func161.trans (congrArg some (by kernel_rfl))⟩
 t4:=Tryz.underlying4
 a4:=Tryz.isAgg4
 z4:=Tryz.sizeOf4
 v4:=Tryz.zeroValue4
 t22:=Tryz.underlying116
 a22:=Tryz.isAgg116
 z22:=Tryz.sizeOf116
 v22:=Tryz.zeroValue116 }
end Go.Proofs
namespace Go.Proofs.YtdpibdpbgokmoaaGreatDoor
open Go.RowKit
structure Lx (B:Nat) (w w1:World) (v v1:Value):Prop where
 below:Below B w w1
 size:w≤w1.heap.size
 other:∀ b,b<w.heap.size→some b≠v.ownBlock→w1.heap[b]?=w.heap[b]?
 at':v1.ownBlock=v.ownBlock∨∃ g,v1.ownBlock=some g∧w.heap.size≤g
theorem Ck {B:Nat} {w w1:World} {o:Obj} {v v1:Value} (hg:(w.alloc o).grownBy w1 v.ownBlock) (hv:∀ g,v.ownBlock=some g→B≤g) (hB:B≤w) (hat:v1.ownBlock=v.ownBlock∨v1.ownBlock=some (w.alloc o).heap.size):Lx B w w1 v v1:=by
 have hb:Below B w w1:=((Qz B w).alloc hB o).grown hg (by simp;omega) hv
 refine ⟨hb,hb.size,fun b A D=>?_,?_⟩
 ·rw [hg.block b (by simp;omega) (fun e=>D e),Below.heap_alloc w o b A]
 rcases hat with h | h
 ·exact .inl h
 exact .inr ⟨_,h,Qqk⟩
theorem Own.move {T:Type} {r:Rd T} {E:TypeId} {S:Nat→Prop} {B B':Nat} {w w':World} {v:Value} {xs:List T} {css:List (List Value)} (h:Own r E S B w v xs css) (hB:B'≤B) (hA:∀ b,b<w.heap.size→(S b∨v.ownBlock=some b)→w'.heap[b]?=w.heap[b]?):Own r E S B' w' v xs css:=by
 refine ⟨⟨h.row.1,?_⟩,h.cs.move (fun b hS A=>hA b A (.inl hS.1)) Qzx⟩
 rcases h.row.2 with hn | ⟨g,cap,cur,rfl,hg,hh,rest⟩
 ·exact .inl hn
 exact .inr ⟨g,cap,cur,rfl,Qqj,(hA g (Array.getElem?_eq_some_iff.1 hh).1 (.inr rfl)).trans hh,rest⟩
theorem Ym {w:World} {B B':Nat} {e e':TypeId} {k k' n n':Nat} {v v':Value} {xs ys:List Value} (h:w.ownsRow B e k v n xs) (h':w.ownsRow B' e' k' v' n' ys) (hne:e≠e') {g:Nat} (hg:v.ownBlock=some g):v'.ownBlock≠some g:=by
 intro A
 rcases h.2 with ⟨rfl,_⟩ | ⟨a,cap,J,rfl,_,hh,_⟩
 ·cases hg
 rcases h'.2 with ⟨rfl,_⟩ | ⟨a',G,I,rfl,_,D,_⟩
 ·cases A
 have e1:a=g:=Qb hg
 have e2:a'=g:=Qb A
 subst e1;subst e2
 rw [hh] at D
 injection D with h1
 injection h1 with _ h2
 exact hne h2
section
variable {P:Program} {T:Type}
theorem Yl {r:Rd T} (hk:0<r.k) {ops:Array Oper} {rest:List Oper} {o:Oper} {a:Act} {Q:Exit→Act→World→Prop} (hgd:o.guard=none) (s x:Operand) (t:TypeId)
  (ho:o.op=.call { callee:=.builtin .append,args:=#[s,x],argTypes:=#[t,t] }) (E:TypeId) (i:TypeInfo) (z:Value) (bytes:Nat) (ht:P.underlying t=some (.slice E)) (hi:P.info? E=some i) (hz:i.zero=some z)
  (hsize:i.size=r.k) (hby:i.bytes=bytes) (hzs:z.cells.size=r.k) (hb1:bytes≤1000) (S:Nat→Prop) (B:Nat) (w:World) (v:Value) (xs:List T) (css:List (List Value)) (cs:List Value) (y:T) (hs:a.eval s=v)
  (hO:Own r E S B w v xs css) (hx:a.eval x=.slice (some ⟨w,0,none⟩) 1 1) (hR:r.R (But S v) w cs y) (h1:∀ u ∈ cs,u.oneCell'=true) (n:Nat) (hn:xs.length=n) (hl:n<1000000) (hB:B≤w)
  (h:∀ p cap css' N,Own r E S B N (.slice p (n+1) cap) (xs++[y]) css'→Lx B w N v (.slice p (n+1) cap)→wpList P ops Q rest (a.put o.dst (.slice p (n+1) cap)) N):
  wpList P ops Q (o::rest) a (w.alloc (.cells cs.toArray E)):=by
 subst hn
 have M:=r.len hR
 have J:Below w w (w.alloc (.cells cs.toArray E)):=(Qz _ _).alloc (Q9 _) _
 have G:Own r E S B (w.alloc (.cells cs.toArray E)) v xs css:=hO.below J
 refine wpList_append_own_at (P:=P) (w:=w.alloc (.cells cs.toArray E)) hgd s x t ho B E i z r.k bytes ht hi hz hsize hby hzs hk v xs.length css.flatten hs G.row ⟨w,0,none⟩ 1 1 cs hx (by rw [M,Nat.one_mul]) (fun j u hu=>?_) h1 (by unfold maxLen;omega) (by
   have:=Nat.mul_le_mul (show xs.length+1≤1000000 by omega) hb1
   omega) (by simp;omega) (fun v1 N D A _ I=>?_)
 ·rw [show (⟨w,0,none⟩:Addr).add j=⟨w,j,none⟩ by unfold Addr.add;split <;> simp_all]
  rw [Qk _ _ _ _ _ _ (Qw w _)]
  simpa using hu
 have O:=G.append (Cs.one (r.mono (r.frame hR (.of_below J)) Qzx)) (ys:=[y]) (dss:=[cs]) (v':=v1) (w2:=N) (by simpa using D) A I
 rcases D.2 with ⟨_,hn⟩ | ⟨g,cap,U,rfl,_⟩
 ·omega
 exact h _ _ _ _ O (Ck A (fun g hg=>(hO.row.lt g hg).1) hB I)
end
end Go.Proofs.YtdpibdpbgokmoaaGreatDoor
