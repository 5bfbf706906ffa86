import Derived.Test.YtppbaladeefnkaaGreatDoorV04
set_option maxRecDepth 100000
set_option maxHeartbeats 400000000
namespace Go.Proofs.YtppbaladeefnkaaGreatDoor
open Go.RowKit Go.Shelf Go.Lib Tryz
def Yb (v:Val) (i:Int):Bool:=decide (v.kind=4)&&decide (0≤i)&&decide (i<v.kids.length)
def Ye (v:Val) (x:Bs):Int:=Y9 (fun y=>decide (y=x)) v.names
theorem Eu {k:IntKind} {a b:Int} {c d:Bool} (h:a=b) (h':c=d):Ending.returned (.tuple #[.int k a,.bool c])=.returned (.tuple #[.int k b,.bool d]):=by rw [h,h']
theorem Zy (w:World) (q:Nat):Below w.heap.size w (w.drewN q):=⟨rfl,rfl,rfl,Q9 _,fun _ _=>rfl⟩
theorem R0 (S:Nat→Prop) (v:Val) (cs:List Value) (x:Bs) (w:World) (h:Qh S w cs v):
  Calls prog 74 #[.agg cs.toArray,sv x] w fun e w'=>e=.returned (.tuple #[.int .i64 (Ye v x),.bool (Yb v (Ye v x))])∧Below w.heap.size w w':=by
 obtain ⟨p3,k3,p4,k4,hcs,hn,hk,_⟩:=Qh.cells h
 simp only [vcs] at hcs
 subst hcs
 have HI:=Qq (fun W (hb:Below w.heap.size w W)=>Na S _ v.names x W (hn.below hb))
 rw [show Y9 (fun y=>decide (y=x)) v.names=Ye v x from rfl] at HI
 have hl:v.kids.length≤1000000:=by obtain ⟨_,_,_,h⟩:=hk.len;exact h
 generalize Ye v x=i at HI ⊢
 clear h hn hk
 unfold sv at HI ⊢
 by_cases h4:v.kind=4
 ·have hq:(v.kind==4)=true:=by rw [h4];rfl
  by_cases h0:0≤i
  ·by_cases hlt:i<v.kids.length
   ·have hF:Yb v i=true:=by unfold Yb;simp [h4,h0,hlt]
    have HF:=Qq hF
    rw [h4] at *
    clear hF hq h4
    go_enter func74,ntmps74
    go_wp2_with (go_at_call 117;refine (HI.out _ (Qn _ _)).mono ?_;rintro e w' ⟨rfl,rfl⟩)
    go_quiet (fail)
    go_wp2
    go_ret2
    exact ⟨Eu rfl HF.out.symm,(Qn _ _).thn (Zy _ _)⟩
   have hF:Yb v i=false:=by unfold Yb;simp [hlt]
   have HF:=Qq hF
   have hd:decide (i<v.kids.length)=false:=by simpa using hlt
   rw [h4] at *
   clear hF hq h4 hlt
   go_enter func74,ntmps74
   go_wp2_with (go_at_call 117;refine (HI.out _ (Qn _ _)).mono ?_;rintro e w' ⟨rfl,rfl⟩)
   go_quiet (fail)
   go_wp2
   go_ret2
   exact ⟨Eu rfl HF.out.symm,(Qn _ _).thn (Zy _ _)⟩
  have hF:Yb v i=false:=by unfold Yb;simp [h0]
  have HF:=Qq hF
  have hd:decide (0≤i)=false:=by simpa using h0
  rw [h4] at *
  clear hF hq h4 h0
  go_enter func74,ntmps74
  go_wp2_with (go_at_call 117;refine (HI.out _ (Qn _ _)).mono ?_;rintro e w' ⟨rfl,rfl⟩)
  go_quiet (fail)
  go_wp2
  go_ret2
  exact ⟨Eu rfl HF.out.symm,(Qn _ _).thn (Zy _ _)⟩
 have hF:Yb v i=false:=by unfold Yb;simp [h4]
 have HF:=Qq hF
 have hq:(v.kind==4)=false:=by simpa using h4
 clear hF h4
 go_enter func74,ntmps74
 go_wp2_with (go_at_call 117;refine (HI.out _ (Qn _ _)).mono ?_;rintro e w' ⟨rfl,rfl⟩)
 go_quiet (fail)
 go_wp2
 go_ret2
 exact ⟨Eu rfl HF.out.symm,(Qn _ _).thn (Zy _ _)⟩
theorem Dm {v u:Val} {x:Bs} (h:Y1 v x=some u):∃ i:Nat,Ye v x=i∧v.kids[i]?=some u∧Yb v (Ye v x)=true:=by
 unfold Y1 at h
 split at h
 ·rename_i h4
  cases hn:D8 v.names x with
  | none=>rw [hn] at h;cases h
  | some i=>
   rw [hn] at h
   have hi:Ye v x=i:=by
    unfold D8 at hn
    unfold Ye Y9
    rw [hn]
   have hlt:=(Qj h).1
   refine ⟨i,hi,h,?_⟩
   rw [hi];unfold Yb
   simp [h4,hlt]
 cases h
theorem Ec {v:Val} {x:Bs} (h:Y1 v x=none):Yb v (Ye v x)=false:=by
 unfold Y1 at h
 unfold Yb
 split at h
 ·cases hn:D8 v.names x with
  | none=>
   have hi:Ye v x=-1:=by
    unfold D8 at hn
    unfold Ye Y9
    rw [hn]
   rw [hi];simp
  | some i=>
   rw [hn] at h
   have hi:Ye v x=i:=by
    unfold D8 at hn
    unfold Ye Y9
    rw [hn]
   rw [List.getElem?_eq_none_iff] at h
   rw [hi];simp;intro _;omega
 rename_i h4
 simp [h4]
def Zz (W:World) (R:Nat) (a b c d e:Value):World:=((((W.setCell ⟨R,0,none⟩ a).setCell ⟨R,1,none⟩ b).setCell ⟨R,2,none⟩ c).setCell ⟨R,3,none⟩ d).setCell ⟨R,4,none⟩ e
theorem Yr {W:World} {R:Nat} {a b c d e x0 x1 x2 x3 x4:Value} {t:TypeId} (h:W.heap[R]?=some (.cells #[x0,x1,x2,x3,x4] t (0,0))):(Zz W R a b c d e).heap[R]?=some (.cells #[a,b,c,d,e] t (0,0)):=by
 have hq9:=heap_setCell_same _ _ 0 _ _ a h;have hq9:=heap_setCell_same _ _ 1 _ _ b hq9;have hq9:=heap_setCell_same _ _ 2 _ _ c hq9;have hq9:=heap_setCell_same _ _ 3 _ _ d hq9;have hq9:=heap_setCell_same _ _ 4 _ _ e hq9
 simpa [Zz] using hq9
theorem Qm {W:World} {R:Nat} {a b c d e x0 x1 x2 x3 x4:Value} {t:TypeId} (h:W.heap[R]?=some (.cells #[x0,x1,x2,x3,x4] t (0,0))) (j:Nat):(Zz W R a b c d e).cell? ⟨R,j,none⟩=#[a,b,c,d,e][j]?:=
 Qk _ _ _ _ _ _ (Yr h)
theorem Qu {W:World} {R k:Nat} {a b c d e:Value} (h:k≠R):(Zz W R a b c d e).heap[k]?=W.heap[k]?:=Yp h
theorem Qo {B R:Nat} {w W:World} {a b c d e:Value} (h:Below B w W) (hR:B≤R):Below B w (Zz W R a b c d e):=
 ((((h.setCell (p:=⟨R,0,none⟩) hR _).setCell (p:=⟨R,1,none⟩) hR _).setCell (p:=⟨R,2,none⟩) hR _).setCell (p:=⟨R,3,none⟩) hR _).setCell (p:=⟨R,4,none⟩) hR _
def GetIs (w:World) (o:Option Val) (e:Ending) (w':World):Prop:=
 ∃ cs',e=.returned (.tuple #[.agg cs'.toArray,.bool o.isSome])∧Qh (fun b=>w.heap.size≤b) w' cs' (o.getD Val.zero)∧Below w.heap.size w w'
theorem Zo (S:Nat→Prop) (w:World):Qh S w [.int .i64 0,.int .i64 0,.string ⟨#[]⟩,.slice none 0 0,.slice none 0 0] Val.zero:=
 Zn (s:=[]) (by simp) (Sl.nil _ _ _) (Sl.nil _ _ _)
theorem Oh (S:Nat→Prop) (v:Val) (cs:List Value) (x:Bs) (w:World) (h:Qh S w cs v):
  Calls prog 39 #[.agg cs.toArray,sv x] w (GetIs w (Y1 v x)):=by
 have HF:=Qq (fun W (hb:Below w.heap.size w W)=>R0 S v cs x W (h.move (.of_below hb) (fun _ _ h=>h)))
 obtain ⟨p3,k3,p4,k4,hcs,hn,hk,_⟩:=Qh.cells h
 simp only [vcs] at hcs
 subst hcs
 have HK:=Qq hk
 clear h hn hk
 unfold sv at HF ⊢
 cases hg:Y1 v x with
 | none=>
  rw [Ec hg] at HF
  clear hg
  generalize Ye v x=i at HF
  go_enter func39,ntmps39
  go_wp2_with (go_at_call 74;refine (HF.out _ (Zv _ _ _)).mono ?_;rintro e w' ⟨rfl,hw⟩;have HW:=Qq hw;have hz:=hw.size;obtain ⟨hc,hf⟩:=Ma hw;have r0:=fun o=>(hf (w.heap.size+1) o (by simp));clear hw)
  have hR:=(HW.out.block (w.heap.size+1) (by simp)).trans (Q6 _ _ _)
  show bodyPost _ _ _ _ _ (Zz w' _ _ _ _ _ _)
  refine Q7 (v:=.tuple #[.agg zV,.bool false]) (by simp [results,results39,go_sem,Qm hR]) rfl ⟨_,rfl,Zo _ _,?_⟩
  exact Qo ((Zv w _ _).thn HW.out) (by omega)
 | some u=>
  obtain ⟨i,hi,hku,hb⟩:=Dm hg
  rw [hb,hi] at HF
  obtain ⟨b,off,q3,l3,q4,l4,rfl,hbl,hvu,d0,d1,d2,d3,d4⟩:=HK.out.val hku
  have hlt:i<v.kids.length:=(Qj hku).1
  have hi1:(0:Int)≤(i:Int):=by omega
  have hi2:(i:Int)<(v.kids.length:Int):=by omega
  have hlt1:b<w.heap.size+1:=by omega
  have HV:=Qq hvu
  clear hg hi hku hb hvu
  go_enter func39,ntmps39
  go_wp2_with fail
  refine (HF.out _ (Zv _ _ _)).mono ?_
  rintro e w1 ⟨rfl,hw⟩
  have HW:=Qq hw
  have hb1:=(Zv w _ _).thn hw
  have hR:=(hw.block (w.heap.size+1) (by simp)).trans (Q6 _ _ _)
  have hX:=(hw.block w.heap.size (by simp;omega)).trans (Q5 _ _ _)
  have e0:=(hb1.cell (p:=⟨b,off+i*5,none⟩) hbl).trans d0;have e1:=(hb1.cell (p:=⟨b,off+i*5+1,none⟩) hbl).trans d1;have e2:=(hb1.cell (p:=⟨b,off+i*5+2,none⟩) hbl).trans d2;have e3:=(hb1.cell (p:=⟨b,off+i*5+3,none⟩) hbl).trans d3;have e4:=(hb1.cell (p:=⟨b,off+i*5+4,none⟩) hbl).trans d4
  have x4:=rA4 hX
  have HB1:=Qq hb1;have HR:=Qq hR
  clear hw hb1 hX hR d0 d1 d2 d3 d4
  go_wp2_with fail
  refine (P0 u _ (vcs u q3 l3 q4 l4) _ (Qh.move HV.out (.of_below HB1.out) (fun _ _ h=>h))).mono ?_
  rintro e w2 ⟨cs',rfl,hv2,hb2⟩
  obtain ⟨r3,m3,r4,m4,hcs,_⟩:=Qh.cells hv2
  simp only [vcs] at hcs
  subst hcs
  have hR2:=kB hb2 HR.out
  have f:=fun j=>frozen_of_row _ _ j _ _ hR2
  have y:=fun j=>Qk _ _ j _ _ _ hR2
  have y0:=y 0;have y1:=y 1;have y2:=y 2;have y3:=y 3;have y4:=y 4
  have f0:=f 0;have f1:=f 1;have f2:=f 2;have f3:=f 3;have f4:=f 4
  simp only [List.getElem?_toArray,List.getElem?_cons_zero,List.getElem?_cons_succ] at y0 y1 y2 y3 y4
  have HB2:=Qq hb2;have HV2:=Qq hv2;have HR2:=Qq hR2
  clear hb2 hv2 hR2 f y
  go_wp2_with fail
  show bodyPost _ _ _ _ _ (Zz w2 _ _ _ _ _ _)
  refine Q7 (v:=.tuple #[.agg #[.int .i64 u.kind,.int .i64 u.n,.string ⟨u.s.toArray⟩,.slice r3 u.names.length m3,.slice r4 u.kids.length m4],.bool true]) (by simp [results,results39,go_sem,Qm HR2.out]) rfl ⟨_,rfl,?_,Qo (HB1.out.thn HB2.out) (by omega)⟩
  have hsz:=HB1.out.size
  have hlt2:=Qf HR.out
  refine Qh.move HV2.out (fun b hb _=>Qu ?_) (fun b _ hb=>?_)
  ·have:w1.heap.size≤b:=hb
   omega
  have:w1.heap.size≤b:=hb
  show w.heap.size≤b
  omega
def Srt {T:Type} (cf:T→T→Int) (xs:List T):Prop:=∀ (i j:Nat) (x y:T),i<j→xs[i]?=some x→xs[j]?=some y→0≤cf y x
def CmpOn {T:Type} (P:Program) (g:Nat) (r:Rd T) (S:Nat→Prop) (cf:T→T→Int):Prop:=
 ∀ (W:World) (x y:T) (cx cy:List Value),r.R S W cx x→r.R S W cy y→Calls P g #[.agg cx.toArray,.agg cy.toArray] W fun e w'=>e=.returned (.int .i64 (cf x y))∧Gr W w'
theorem Fc {α:Type} [Inhabited α] (lt:α→α→Bool) (a b:Nat) (d:Array α) (h:∀ j,a<j→j<b→lt d[j]! d[j - 1]! = false):∀ (k i:Nat),b - i≤k→a<i→Sort.insOuter lt a b i d=d:=by
 intro k
 induction k with
 | zero=>intro i hi _;exact insOuter_stop _ _ _ _ _ (by omega)
 | succ k ih=>
  intro i hi ha
  by_cases hlt:i<b
  ·rw [insOuter_go _ _ _ _ _ hlt,insInner_stop _ _ _ _ (.inr (h i ha hlt))]
   exact ih (i+1) (by omega) (by omega)
  exact insOuter_stop _ _ _ _ _ hlt
theorem Fa {α:Type} [Inhabited α] (enc:α→List Value) (k:Nat) (w:World) (g m:Nat) (dk:Array α) (os:Array Obj) (b:Nat) (hb:b<w.heap.size) (hne:b≠g):(sortWorldK enc k w g 0 m dk os).heap[b]?=w.heap[b]?:=by
 unfold sortWorldK Sort.putRowK Sort.putRow Sort.mapBlock Sort.grow Sort.ahead
 simp only
 rw [Array.getElem?_append_left (by simpa using hb),Array.getElem?_modify,if_neg (fun e=>hne e.symm)]
def El {T:Type} (r:Rd T) (S:Nat→Prop) (w:World):Type:={ p:List Value × T // r.R S w p.1 p.2 }
section
variable {P:Program} {ρ:Ren} {T:Type}
theorem Pn (L:SlLaysF0.n20 P ρ) (r:Rd T) (hk0:0<r.k) (E:TypeId) (aE:∀ w,(isAgg (ρ.t 24)).run P w=.ok true w) (zE:∀ w,(Go.sizeOf (ρ.t 24)).run P w=.ok r.k w) (h1:∀ S w cs x,r.R S w cs x→∀ u ∈ cs,u.oneCell'=true)
  (cf:T→T→Int) (g:Nat) (eg:∀ args w,(callFunc g args).run P w=.ok (.enter g args) w) (S:Nat→Prop) (B:Nat) (w:World) (q cap:Nat) (xs:List T) (css:List (List Value)) (hO:Own r E S B w (.slice (some ⟨q,0,none⟩) xs.length cap) xs css)
  (z:List Value) (zt:T) (hz:r.R (But S (.slice (some ⟨q,0,none⟩) xs.length cap)) w z zt)
  (hc:CmpOn P g r (But S (.slice (some ⟨q,0,none⟩) xs.length cap)) cf) (ho:Srt cf xs) (hl:xs.length≤1000000) (a b:Nat) (hab:a≤b) (hb:b≤xs.length):
  Calls P (ρ.f 20) #[.slice (some ⟨q,0,none⟩) xs.length cap,.int .i64 a,.int .i64 b,.func (.func g) #[] #[]] w fun e w'=>e=.returned (.tuple #[])∧Gr w w':=by
 haveI:Inhabited (El r (But S (.slice (some ⟨q,0,none⟩) xs.length cap)) w):=⟨⟨(z,zt),hz⟩⟩
 obtain ⟨l,hll,hlat⟩:=F8 xs.length (fun i (e:El r (But S (.slice (some ⟨q,0,none⟩) xs.length cap)) w)=>css[i]?=some e.1.1∧xs[i]?=some e.1.2) (fun i hi=>by
  have h1:=Qx (l:=css) (i:=i) (by rw [hO.cs.len];exact hi)
  have h2:=Qx hi
  exact ⟨⟨(_,_),hO.cs.R i _ _ h1 h2⟩,h1,h2⟩)
 have hsz:l.toArray.size=xs.length:=by simpa using hll
 have hget:∀ i,i<xs.length→css[i]?=some (l.toArray[i]!).1.1∧xs[i]?=some (l.toArray[i]!).1.2:=by
  intro i hi
  refine hlat i _ ?_
  rw [Qx (by omega)]
  simp [hll,hi]
 have hq:=(hO.row.lt q rfl).2
 have hH:Sort.HoldsK (fun e:El r (But S (.slice (some ⟨q,0,none⟩) xs.length cap)) w=>e.1.1) r.k w q 0 l.toArray:=by
  intro j hj
  rw [Sort.size_flatK,hsz] at hj
  have hjk:j / r.k<xs.length:=Nat.div_lt_of_lt_mul (by rwa [Nat.mul_comm])
  have hg:=hget _ hjk
  refine ⟨?_,by rw [Nat.zero_add];exact hO.row.frozenAt j⟩
  rw [Nat.zero_add,hO.row.cellAt j hj]
  have hmod:j % r.k<(l.toArray[j / r.k]!).1.1.length:=by rw [r.len (l.toArray[j / r.k]!).2];exact Nat.mod_lt _ hk0
  have:=Yg hO.cs.all hg.1 (Qx hmod)
  rw [Nat.div_add_mod' j r.k] at this
  rw [this,Sort.get_flatK _ _ _ _ (by rw [hsz];exact hj),getElem!_pos ((l.toArray[j / r.k]!).1.1) (j % r.k) hmod]
  rfl
 have hcmp:CmpLays P g #[] (fun e:El r (But S (.slice (some ⟨q,0,none⟩) xs.length cap)) w=>e.1.1) r.k (fun x y=>cf x.1.2 y.1.2) q 0 l.toArray.size w:=by
  intro m os dk _ x y
  have hA:Vm (But S (.slice (some ⟨q,0,none⟩) xs.length cap)) w (sortWorldK (fun e:El r (But S (.slice (some ⟨q,0,none⟩) xs.length cap)) w=>e.1.1) r.k w q 0 m dk os):=fun b hb hlt=>Fa _ _ _ _ _ _ _ b hlt (fun e=>hb.2 (by rw [e];rfl))
  exact hc _ x.1.2 y.1.2 _ _ (r.frame x.2 hA) (r.frame y.2 hA)
 have hcon:=AnyQ.insertionSortCmpFunc (ρ:=ρ) L r.k aE zE (fun e:El r (But S (.slice (some ⟨q,0,none⟩) xs.length cap)) w=>e.1.1) (fun e=>r.len e.2) (fun e=>h1 _ _ _ _ e.2) (fun x y=>cf x.1.2 y.1.2) g #[] q 0 cap a b l.toArray w eg hcmp hH hq hab (by rw [hsz];exact hb) (by rw [hsz];omega)
 rw [hsz] at hcon
 refine hcon.mono ?_
 rintro e w' ⟨rfl,n,os,rfl⟩
 refine ⟨rfl,?_⟩
 have hs:Sort.insertionSort (ltOf fun (x y:El r (But S (.slice (some ⟨q,0,none⟩) xs.length cap)) w)=>cf x.1.2 y.1.2) l.toArray a b=l.toArray:=by
  refine Fc _ _ _ _ (fun j hj1 hj2=>?_) _ _ (Q9 _) (by omega)
  have h2:=(hget j (by omega)).2
  have h3:=(hget (j - 1) (by omega)).2
  have:=ho (j - 1) j _ _ (by omega) h3 h2
  simp only [ltOf,decide_eq_false_iff_not]
  omega
 rw [hs]
 unfold sortWorldK
 rw [Sort.putRowK_self _ _ _ _ _ _ (Sort.holdsK_ahead _ _ _ _ _ _ _ hH)]
 exact ⟨n,os,rfl⟩
end
open Go.RowKit
structure Bo (B:Nat) (w w1:World) (v v1:Value):Prop where
 below:Below B w w1
 size:w.heap.size≤w1.heap.size
 other:∀ b,b<w.heap.size→some b≠v.ownBlock→w1.heap[b]?=w.heap[b]?
 at':v1.ownBlock=v.ownBlock∨∃ g,v1.ownBlock=some g∧w.heap.size≤g
theorem Pt {B:Nat} {w w1:World} {o:Obj} {v v1:Value} (hg:(w.alloc o).grownBy w1 v.ownBlock) (hv:∀ g,v.ownBlock=some g→B≤g) (hB:B≤w.heap.size) (hat:v1.ownBlock=v.ownBlock∨v1.ownBlock=some (w.alloc o).heap.size):Bo B w w1 v v1:=by
 have hb:Below B w w1:=((Qz B w).alloc hB o).grown hg (by simp;omega) hv
 refine ⟨hb,hb.size,fun b hlt hne=>?_,?_⟩
 ·rw [hg.block b (by simp;omega) (fun e=>hne e),Below.heap_alloc w o b hlt]
 rcases hat with h | h
 ·exact .inl h
 exact .inr ⟨_,h,by simp⟩
theorem Own.move {T:Type} {r:Rd T} {E:TypeId} {S:Nat→Prop} {B B':Nat} {w w':World} {v:Value} {xs:List T} {css:List (List Value)} (h:Own r E S B w v xs css) (hB:B'≤B) (hA:∀ b,b<w.heap.size→(S b∨v.ownBlock=some b)→w'.heap[b]?=w.heap[b]?):Own r E S B' w' v xs css:=by
 refine ⟨⟨h.row.1,?_⟩,h.cs.move (fun b hS hlt=>hA b hlt (.inl hS.1)) (fun _ _ h=>h)⟩
 rcases h.row.2 with hn | ⟨g,cap,cur,rfl,hg,hh,rest⟩
 ·exact .inl hn
 exact .inr ⟨g,cap,cur,rfl,by omega,(hA g (Array.getElem?_eq_some_iff.1 hh).1 (.inr rfl)).trans hh,rest⟩
theorem Zs {w:World} {B B':Nat} {e e':TypeId} {k k' n n':Nat} {v v':Value} {xs ys:List Value} (h:w.ownsRow B e k v n xs) (h':w.ownsRow B' e' k' v' n' ys) (hne:e≠e') {g:Nat} (hg:v.ownBlock=some g):v'.ownBlock≠some g:=by
 intro hg'
 rcases h.2 with ⟨rfl,_⟩ | ⟨a,cap,cur,rfl,_,hh,_⟩
 ·cases hg
 rcases h'.2 with ⟨rfl,_⟩ | ⟨a',cap',cur',rfl,_,hh',_⟩
 ·cases hg'
 have e1:a=g:=Qb hg
 have e2:a'=g:=Qb hg'
 subst e1;subst e2
 rw [hh] at hh'
 injection hh' with h1
 injection h1 with _ h2
 exact hne h2
section
variable {P:Program} {T:Type}
theorem Zm {r:Rd T} (hk:0<r.k) {ops:Array Oper} {rest:List Oper} {o:Oper} {a:Act} {Q:Exit→Act→World→Prop} (hgd:o.guard=none) (s x:Operand) (t:TypeId)
  (ho:o.op=.call { callee:=.builtin .append,args:=#[s,x],argTypes:=#[t,t] }) (E:TypeId) (i:TypeInfo) (z:Value) (bytes:Nat) (ht:P.underlying t=some (.slice E)) (hi:P.info? E=some i) (hz:i.zero=some z)
  (hsize:i.size=r.k) (hby:i.bytes=bytes) (hzs:z.cells.size=r.k) (hb1:bytes≤1000) (S:Nat→Prop) (B:Nat) (w:World) (v:Value) (xs:List T) (css:List (List Value)) (cs:List Value) (y:T) (hs:a.eval s=v)
  (hO:Own r E S B w v xs css) (hx:a.eval x=.slice (some ⟨w.heap.size,0,none⟩) 1 1) (hR:r.R (But S v) w cs y) (h1:∀ u ∈ cs,u.oneCell'=true) (n:Nat) (hn:xs.length=n) (hl:n<1000000) (hB:B≤w.heap.size)
  (h:∀ p cap css' w1,Own r E S B w1 (.slice p (n+1) cap) (xs++[y]) css'→Bo B w w1 v (.slice p (n+1) cap)→wpList P ops Q rest (a.put o.dst (.slice p (n+1) cap)) w1):
  wpList P ops Q (o::rest) a (w.alloc (.cells cs.toArray E)):=by
 subst hn
 have hlen:=r.len hR
 have hba:Below w.heap.size w (w.alloc (.cells cs.toArray E)):=(Qz _ _).alloc (Q9 _) _
 have hO1:Own r E S B (w.alloc (.cells cs.toArray E)) v xs css:=hO.below hba
 refine wpList_append_own_at (P:=P) (w:=w.alloc (.cells cs.toArray E)) hgd s x t ho B E i z r.k bytes ht hi hz hsize hby hzs hk v xs.length css.flatten hs hO1.row ⟨w.heap.size,0,none⟩ 1 1 cs hx (by rw [hlen,Nat.one_mul]) (fun j u hu=>?_) h1 (by unfold maxLen;omega) (by
   have:=Nat.mul_le_mul (show xs.length+1≤1000000 by omega) hb1
   omega) (by simp;omega) (fun v1 w1 hown hgrow _ hat=>?_)
 ·rw [show (⟨w.heap.size,0,none⟩:Addr).add j=⟨w.heap.size,j,none⟩ by unfold Addr.add;split <;> simp_all]
  rw [Qk _ _ _ _ _ _ (Qw w _)]
  simpa using hu
 have hO2:=hO1.append (Cs.one (r.mono (r.frame hR (.of_below hba)) (fun _ _ h=>h))) (ys:=[y]) (dss:=[cs]) (v':=v1) (w2:=w1) (by simpa using hown) hgrow hat
 rcases hown.2 with ⟨_,hn⟩ | ⟨g,cap,cur,rfl,_⟩
 ·omega
 exact h _ _ _ _ hO2 (Pt hgrow (fun g hg=>(hO.row.lt g hg).1) hB hat)
end
theorem colZero (S:Nat→Prop) (w:World):Y0.R S w [.string ⟨#[]⟩,.int .i64 0,.string ⟨#[]⟩,.int .i64 0,.slice none 0 0,.slice none 0 0] ⟨[],.mk 0 [] 0 [] []⟩:=
 ⟨_,rfl,by simp,Jj (s:=[]) (by simp) (Sl.nil _ _ _) (Sl.nil _ _ _)⟩
def J8 (a b:Col):Int:=Zg a.name b.name
theorem row1_on (S:Nat→Prop):CmpOn prog 121 Y0 S J8:=fun W x y cx cy hx hy=>row1_any S x y cx cy W hx hy
theorem insCol (S:Nat→Prop) (B:Nat) (w:World) (q cap:Nat) (xs:List Col) (css:List (List Value)) (hO:Own Y0 78 S B w (.slice (some ⟨q,0,none⟩) xs.length cap) xs css)
  (ho:Srt J8 xs) (hl:xs.length≤1000000) (a b:Nat) (hab:a≤b) (hb:b≤xs.length):
  Calls prog 185 #[.slice (some ⟨q,0,none⟩) xs.length cap,.int .i64 a,.int .i64 b,.func (.func 121) #[] #[]] w fun e w'=>e=.returned (.tuple #[])∧Gr w w':=
 Pn Tryz.insCol Y0 (by decide) 78 isAgg78 sizeOf78 Pw J8 121 (enters_of func121 (by kernel_rfl) rfl) S B w q cap xs css hO _ _ (colZero _ _) (row1_on _) ho hl a b hab hb
theorem Sn (S:Nat→Prop) (B:Nat) (w:World) (q cap:Nat) (xs:List Col) (css:List (List Value)) (hO:Own Y0 78 S B w (.slice (some ⟨q,0,none⟩) xs.length cap) xs css)
  (ho:Srt J8 xs) (hl:xs.length≤19):
  Calls prog 144 #[.slice (some ⟨q,0,none⟩) xs.length cap,.int .i64 xs.length,.func (.func 121) #[] #[]] w fun e w'=>e=.returned (.tuple #[])∧Gr w w':=by
 have HI:=Qq (insCol S B w q cap xs css hO ho (by omega) 0 xs.length (Q8 _) (Q9 _))
 clear hO ho
 have h1:(xs.length:Int)<20:=by omega
 generalize xs.length=n at HI h1 hl ⊢
 rw [show ((0:Nat):Int)=0 from rfl] at HI
 go_enter func144,ntmps144
 go_wp2_with fail
 go_loop [7,8] (fun a b=>a=.int .i64 0∧b=.int .i64 20) (fun _ _=>0)
 case atStart=>exact ⟨rfl,rfl⟩
 obtain ⟨rfl,rfl⟩:=hrel
 go_wp2_with (go_at_call 185;refine HI.out.mono ?_;rintro e w' ⟨rfl,hw⟩)
 go_loopw [6] (fun s wr=>s=.int .i64 20∧Gr w wr) (fun _ _=>0)
 case atStart=>exact ⟨rfl,hw⟩
 obtain ⟨rfl,hB⟩:=hrel
 have HB:=Qq hB
 clear hB hw
 go_wp2_with fail
 go_end0
 exact ⟨rfl,HB.out⟩
theorem sortCol (S:Nat→Prop) (B:Nat) (w:World) (p:Option Addr) (cap:Nat) (xs:List Col) (css:List (List Value)) (hO:Own Y0 78 S B w (.slice p xs.length cap) xs css)
  (ho:Srt J8 xs) (hl:xs.length≤19) (hne:xs≠[]):
  Calls prog 120 #[.slice p xs.length cap,.func (.func 121) #[] #[]] w fun e w'=>e=.returned (.tuple #[])∧Gr w w':=by
 have hpos:0<xs.length:=List.length_pos_iff.2 hne
 obtain ⟨q,cap',hv,_⟩:=hO.row.form hpos
 simp only [Value.slice.injEq] at hv
 obtain ⟨rfl,-,rfl⟩:=hv
 have HI:=Qq (Sn S B w q cap xs css hO ho hl)
 clear hO ho hne hpos
 generalize xs.length=n at HI hl ⊢
 go_enter func120,ntmps120
 go_wp2_with (go_at_call 144;refine HI.out.mono ?_;rintro e w' ⟨rfl,hw⟩)
 go_end0
 exact ⟨rfl,hw⟩
theorem Z6.cells {S:Nat→Prop} {w:World} {cs:List Value} {x:Ex} (h:Z6 S w cs x):∃ k s1 n s2 p1 n1 c1 p2 n2 c2 p3 n3 c3 a z,cs=[.int .i64 k,.string s1,.int .i64 n,.string s2,.slice p1 n1 c1,.slice p2 n2 c2,.slice p3 n3 c3,.int .i64 a,.int .i64 z]:=by
 cases h with
 | mk k nm n s names binds kids a z nv bv p cap b off cs hm hs hn hb=>
  obtain ⟨p1,c1,rfl,_⟩:=hn.len
  obtain ⟨p2,c2,rfl,_⟩:=hb.len
  exact ⟨_,_,_,_,_,_,_,_,_,_,_,_,_,_,_,rfl⟩
def tcs (t:Tbl) (cp:Option Addr) (cc:Nat) (kp:Option Addr) (kc:Nat) (rp:Option Addr) (rc:Nat) (k:Int) (s1:ByteArray) (n:Int) (s2:ByteArray) (p1:Option Addr) (n1 c1:Nat) (p2:Option Addr) (n2 c2:Nat) (p3:Option Addr) (n3 c3:Nat) (a z:Int):List Value:=
 [.string ⟨t.name.toArray⟩,.slice cp t.columns.length cc,.slice kp t.key.length kc,.slice rp t.refs.length rc,.int .i64 k,.string s1,.int .i64 n,.string s2,.slice p1 n1 c1,.slice p2 n2 c2,.slice p3 n3 c3,.int .i64 a,.int .i64 z]
theorem Zk {S:Nat→Prop} {w:World} {cs:List Value} {t:Tbl} (h:Qt.R S w cs t):∃ cp cc kp kc rp rc k s1 n s2 p1 n1 c1 p2 n2 c2 p3 n3 c3 a z,cs=tcs t cp cc kp kc rp rc k s1 n s2 p1 n1 c1 p2 n2 c2 p3 n3 c3 a z∧t.name.length≤1000000 ∧
  Sl Y0 S w (.slice cp t.columns.length cc) t.columns∧Sl Qp S w (.slice kp t.key.length kc) t.key∧Sl Jb S w (.slice rp t.refs.length rc) t.refs∧Z6 S w [.int .i64 k,.string s1,.int .i64 n,.string s2,.slice p1 n1 c1,.slice p2 n2 c2,.slice p3 n3 c3,.int .i64 a,.int .i64 z] t.check:=by
 obtain ⟨cv,kv,rv,ec,rfl,h1,h2,h3,h4,h5⟩:=h
 obtain ⟨cp,cc,rfl,_⟩:=h2.len
 obtain ⟨kp,kc,rfl,_⟩:=h3.len
 obtain ⟨rp,rc,rfl,_⟩:=h4.len
 obtain ⟨k,s1,n,s2,p1,n1,c1,p2,n2,c2,p3,n3,c3,a,z,rfl⟩:=h5.cells
 exact ⟨cp,cc,kp,kc,rp,rc,k,s1,n,s2,p1,n1,c1,p2,n2,c2,p3,n3,c3,a,z,rfl,h1,h2,h3,h4,h5⟩
def Ee (t:Tbl):Ty:=.mk 5 [] 0 (t.columns.map Col.name) (t.columns.map Col.type)
def RowIs (w:World) (t:Tbl) (e:Ending) (w':World):Prop:=∃ cs',e=.returned (.agg cs'.toArray)∧Y7 (fun _=>True) w' cs' (Ee t)∧Below w.heap.size w w'
structure RowMid (w:World) (G:Nat) (cp:Option Addr) (ccap:Nat) (xs:List Col) (k:Nat) (np:Option Addr) (ncap:Nat) (kp:Option Addr) (kcap:Nat) (wr:World):Prop where
 below:Below w.heap.size w wr
 hG:w.heap.size+2≤G
 box:wr.heap[G]?=some (.cells #[.int .i64 5,.string ⟨#[]⟩,.int .i64 0,.slice np k ncap,.slice kp k kcap] 70 (0,0))
 res:wr.heap[w.heap.size+1]?=some (.cells zY 70 (0,0))
 names:∃ ncs,Own Qp 9 (fun b=>b<G∧b≠w.heap.size+1) (G+1) wr (.slice np k ncap) ((xs.take k).map Col.name) ncs
 kids:∃ kcs,Own Uq 70 (fun b=>b<G∧b≠w.heap.size+1) (G+1) wr (.slice kp k kcap) ((xs.take k).map Col.type) kcs
 cols:Sl Y0 (fun b=>b<G∧b≠w.heap.size+1) wr (.slice cp xs.length ccap) xs
theorem row_any (S0:Nat→Prop) (t:Tbl) (cs:List Value) (w:World) (h0:Qt.R S0 w cs t) (ho:Srt J8 t.columns) (hl:t.columns.length≤19) (hne:t.columns≠[]):
  Calls prog 86 #[.agg cs.toArray] w (RowIs w t):=by
 have h:Qt.R (fun b=>b<w.heap.size) w cs t:=Qt.mono h0 (fun b hb _=>hb)
 obtain ⟨cp0,cc0,kp0,kc0,rp0,rc0,k0,s1,n0,s2,p1,n1,c1,p2,n2,c2,p3,n3,c3,a0,z0,rfl,hnl,hcols,_,_,_⟩:=Zk h
 unfold tcs
 have HC:=Qq hcols;have HO:=Qq ho;have HNe:=Qq hne
 obtain ⟨i9,j1,j2,j3,j4⟩:=Za (P:=prog) (t:=9) (z:=.string ⟨#[]⟩) (n:=1) (b:=16) (by kernel_rfl)
 obtain ⟨i46,l1,l2,l3,l4⟩:=Za (P:=prog) (t:=70) (z:=.agg zY) (n:=5) (b:=80) (by kernel_rfl)
 have HJ:=Qq j1;have HJ2:=Qq j2;have HJ3:=Qq j3;have HJ4:=Qq j4;have HL:=Qq l1;have HL2:=Qq l2;have HL3:=Qq l3;have HL4:=Qq l4
 clear h h0 hcols ho hne j1 j2 j3 j4 l1 l2 l3 l4
 go_enter func86,ntmps86
 go_wp2_with fail
 refine (L5 _ _ t.columns _ (HC.out.below (Zv _ _ _))).mono ?_
 rintro e w1 ⟨cp,ccap,ccs,rfl,ho1,hb1⟩
 have hres1:=(hb1.block (w.heap.size+1) (by simp)).trans (Q6 _ _ _)
 have HR1:=Qq hres1;have HB1:=Qq ((Zv w _ _).thn hb1);have HO1:=Qq ho1
 have hsz1:w.heap.size+2≤w1.heap.size:=by have:=hb1.size;simpa using this
 clear hres1 hb1 ho1
 go_wp2_with fail
 refine (sortCol _ _ _ cp ccap t.columns ccs HO1.out HO.out hl HNe.out).mono ?_
 rintro e w2 ⟨rfl,hg2⟩
 have HG2:=Qq hg2.bl
 have hsz2:w.heap.size+2≤w2.heap.size:=by have:=hg2.bl.size;omega
 clear hg2
 go_wp2_with fail
 obtain ⟨W3,hW3⟩:=eX (w2.alloc (.cells #[.int .i64 5,.string ⟨#[]⟩,.int .i64 0,.slice none 0 0,.slice none 0 0] 70))
 rw [hW3]
 have hM0:RowMid w w2.heap.size cp ccap t.columns 0 none 0 none 0 W3:=by
  have hb3:=eqB hW3 (Qn _ _)
  refine ⟨HB1.out.thn (HG2.out.thn hb3),hsz2,by rw [← hW3];exact Qw _ _,?_,⟨[],Own.nil _ _ _ _ _⟩,⟨[],Own.nil _ _ _ _ _⟩,?_⟩
  ·rw [hb3.block _ (by omega),HG2.out.block _ (by omega)];exact HR1.out
  refine (((HO1.out.sl (by omega) (S':=fun b=>b≠w.heap.size+1) (fun b hb=>?_) (fun b _ hb=>?_)).below HG2.out).mono (S':=fun b=>b<w2.heap.size∧b≠w.heap.size+1) (fun b hb h=>⟨hb,h⟩)).below hb3
  ·have h2:w.heap.size+2≤b:=by simpa using hb
   omega
  have h2:b<w.heap.size:=hb
  omega
 have HM0:=Qq hM0
 clear hM0 hW3
 obtain ⟨n,hn⟩:=eX (t.columns.length)
 rw [hn] at hl ⊢
 have HN:=Qq hn
 clear hn
 generalize hG:w2.heap.size=G at HM0 hsz2 ⊢
 clear hG
 go_loopw [15] (fun i wr=>∃ (k:Nat) (np:Option Addr) (ncap:Nat) (kp:Option Addr) (kcap:Nat),k≤n∧i=.int .i64 k∧RowMid w G cp ccap t.columns k np ncap kp kcap wr) (fun i _=>n - (intOf i).toNat)
 case atStart=>exact ⟨0,none,0,none,0,Q8 _,rfl,HM0.out⟩
 obtain ⟨k,np,ncap,kp,kcap,hkn,rfl,hM⟩:=hrel
 have HM:=Qq hM
 have fr:=fun j=>frozen_of_row _ _ j _ _ hM.box
 have c0:=rA0 hM.box;have c1':=rA1 hM.box;have c2':=rA2 hM.box;have c3':=rA3 hM.box;have c4:=rA4 hM.box
 have hGlt:=Qf hM.box
 by_cases hlt:k<n
 ·have hi1:(0:Int)≤(k:Int):=by omega
  have hi2:(k:Int)<(n:Int):=by omega
  obtain ⟨x,hx⟩:∃ x,t.columns[k]?=some x:=⟨_,Qx (by rw [HN.out];exact hlt)⟩
  obtain ⟨cb,coff,cc,rfl,hcb,hcbS,-,hvx,hcx⟩:=hM.cols.elem hx
  obtain ⟨tc,hcc,hxl,hty⟩:=hvx
  obtain ⟨m1,m2,m3,m4,m5,m6,m7,m8,m9,rfl⟩:=hty.cells
  subst hcc
  have d0:=hcx 0 _ rfl;have d1:=hcx 1 _ rfl;have d2:=hcx 2 _ rfl;have d3:=hcx 3 _ rfl;have d4:=hcx 4 _ rfl;have d5:=hcx 5 _ rfl
  simp only [show Y0.k=6 from rfl,Nat.add_zero] at d0 d1 d2 d3 d4 d5
  unfold sv at d0
  have HX:=Qq hx;have HTy:=Qq hty
  clear hx hcx hty c0 c1' c2' c3' c4 fr hM
  go_upto_region 7 with fail
  obtain ⟨W4,hW4⟩:=eX (wr.alloc (.cells #[.string ⟨x.name.toArray⟩,.int .i64 m1,.string m2,.int .i64 m3,.slice m4 m5 m6,.slice m7 m8 m9] 78))
  rw [hW4]
  have hb4:=eqB hW4 (Qn _ _)
  have hsz4:W4.heap.size=wr.heap.size+1:=by rw [← hW4];simp
  have hX4:=eqH (b:=wr.heap.size) hW4 (Qw _ _)
  obtain ⟨ncs,hON⟩:=HM.out.names
  obtain ⟨kcs,hOK⟩:=HM.out.kids
  have hnl:((t.columns.take k).map Col.name).length=k:=by rw [List.length_map,List.length_take,HN.out];omega
  have hkl:((t.columns.take k).map Col.type).length=k:=by rw [List.length_map,List.length_take,HN.out];omega
  have hB4:=(hb4.block G hGlt).trans HM.out.box
  have c3:=Qk _ _ 3 _ _ _ hB4;have c4:=Qk _ _ 4 _ _ _ hB4;have f3:=fA 3 hB4
  have q0:=Qk _ _ 0 _ _ _ hX4
  simp only [List.getElem?_toArray,List.getElem?_cons_zero,List.getElem?_cons_succ] at c3 c4 q0
  have hON4:=hON.below hb4
  have hOK4:=hOK.below hb4
  have HW4:=Qq hb4;have HX4:=Qq hX4;have HB4:=Qq hB4;have HS4:=Qq hsz4;have HON:=Qq hON4;have HOK:=Qq hOK4;have HNL:=Qq hnl;have HKL:=Qq hkl
  clear hW4 hb4 hX4 hB4 hON hOK hON4 hOK4 hnl hkl d0 d1 d2 d3 d4 d5 hsz4
  go_upto_region 8 with (at_builtin;refine Zm (r:=Qp) (by decide) rfl (.tmp 20) (.tmp 23) _ rfl 9 i9 (.string ⟨#[]⟩) 16 underlying30 HJ.out HJ2.out HJ3.out HJ4.out rfl (by omega) (fun b=>b<G∧b≠w.heap.size+1) (G+1) W4 (.slice np k ncap) ((t.columns.take k).map Col.name) ncs [.string ⟨x.name.toArray⟩] x.name rfl HON.out rfl ⟨rfl,hxl⟩ (by simp [Value.oneCell']) k HNL.out (by omega) (by have:=HS4.out;omega) ?_;intro p5 cap5 css5 w5 hO5 hL5;have HO5:=Qq hO5;have HL5:=Qq hL5;have hB5:=(hL5.other G (by have:=HS4.out;omega) (fun e=>by have:=(HON.out.row.lt G e.symm).1;omega)).trans HB4.out;have f35:=fA 3 hB5;have c35:=rA3 hB5;have HB5:=Qq hB5;clear hO5 hL5 hB5)
  obtain ⟨W6,hW6⟩:=eX (w5.setCell ⟨G,3,none⟩ (.slice p5 (k+1) cap5))
  rw [hW6]
  have hne6:∀ b,b≠G→W6.heap[b]?=w5.heap[b]?:=by intro b hb;rw [← hW6];exact Qg hb
  have hsz6:W6.heap.size=w5.heap.size:=by rw [← hW6];simp [World.setCell]
  have hB6:W6.heap[G]?=some (.cells #[.int .i64 5,.string ⟨#[]⟩,.int .i64 0,.slice p5 (k+1) cap5,.slice kp k kcap] 70 (0,0)):=by rw [← hW6,heap_setCell_same _ _ _ _ _ _ HB5.out];rfl
  have hXne:∀ g,(Value.slice np k ncap).ownBlock=some g→wr.heap.size≠g:=fun g hg e=>by
   obtain ⟨_,h⟩:=HM.out.names
   have:=(h.row.lt g hg).2
   omega
  have hX6:W6.heap[wr.heap.size]?=some (.cells #[.string ⟨x.name.toArray⟩,.int .i64 m1,.string m2,.int .i64 m3,.slice m4 m5 m6,.slice m7 m8 m9] 78 (0,0)):=by
   rw [hne6 _ (by omega),HL5.out.other _ (by have:=HS4.out;omega) (fun e=>hXne _ e.symm rfl)];exact HX4.out
  have keep:∀ b,b<wr.heap.size→some b≠(Value.slice np k ncap).ownBlock→b≠G→W6.heap[b]?=wr.heap[b]?:=fun b hb hne hbG=>by
   rw [hne6 b hbG,HL5.out.other b (by have:=HS4.out;omega) hne];exact HW4.out.block b hb
  obtain ⟨_,hONr⟩:=HM.out.names
  obtain ⟨kcs',hOKr⟩:=HM.out.kids
  have hOK6:Own Uq 70 (fun b=>b<G∧b≠w.heap.size+1) (G+1) W6 (.slice kp k kcap) ((t.columns.take k).map Col.type) kcs':=hOKr.move (Q9 _) (fun b hb h=>by
   rcases h with h | h
   ·exact keep b hb (fun e=>by have:=(hONr.row.lt b e.symm).1;omega) (by omega)
   exact keep b hb (fun e=>Zs hOKr.row hONr.row (by decide) h e.symm) (by have:=(hOKr.row.lt b h).1;omega))
  have hON6:Own Qp 9 (fun b=>b<G∧b≠w.heap.size+1) (G+1) W6 (.slice p5 (k+1) cap5) ((t.columns.take k).map Col.name++[x.name]) css5:=HO5.out.move (Q9 _) (fun b _ h=>hne6 b (by
   rcases h with h | h
   ·omega
   have:=(HO5.out.row.lt b h).1;omega))
  have hTy6:Uq.R (But (fun b=>b<G∧b≠w.heap.size+1) (.slice kp k kcap)) W6 [.int .i64 m1,.string m2,.int .i64 m3,.slice m4 m5 m6,.slice m7 m8 m9] x.type:=by
   refine Y7.move HTy.out (fun b hb hlt=>keep b hlt (fun e=>by have:=(hONr.row.lt b e.symm).1;omega) (by omega)) (fun b _ hb=>⟨hb,fun e=>?_⟩)
   have:=(hOKr.row.lt b e.symm).1
   omega
  have hsz5:=HL5.out.size
  have g4:=Qk _ _ 4 _ _ _ hB6;have fz4:=fA 4 hB6
  have y1:=Qk _ _ 1 _ _ _ hX6;have y2:=Qk _ _ 2 _ _ _ hX6;have y3:=Qk _ _ 3 _ _ _ hX6;have y4:=Qk _ _ 4 _ _ _ hX6;have y5:=Qk _ _ 5 _ _ _ hX6
  simp only [List.getElem?_toArray,List.getElem?_cons_zero,List.getElem?_cons_succ] at g4 y1 y2 y3 y4 y5
  have HK6:=Qq keep;have HOK6:=Qq hOK6;have HON6:=Qq hON6;have HTy6:=Qq hTy6;have HB6:=Qq hB6;have HS6:=Qq hsz6;have HS5:=Qq hsz5
  have hbel6:Below w.heap.size w W6:=HM.out.below.trans (by
   have h1:=HW4.out.mono HM.out.below.size
   have h2:=(HL5.out.below.mono (show w.heap.size≤G+1 by omega))
   have h3:=(h1.trans h2).setCell (p:=⟨G,3,none⟩) (show w.heap.size≤G by omega) (.slice p5 (k+1) cap5)
   rwa [hW6] at h3)
  have HBel6:=Qq hbel6
  clear hW6 hne6 hsz6 hB6 hXne hX6 keep hONr hOKr hOK6 hON6 hTy6 hsz5 c3 c4 f3 q0 f35 c35 hbel6
  go_wp2_with (at_builtin;refine Zm (r:=Uq) (by decide) rfl (.tmp 27) (.tmp 30) _ rfl 70 i46 (.agg zY) 80 underlying68 HL.out HL2.out HL3.out HL4.out rfl (by omega) (fun b=>b<G∧b≠w.heap.size+1) (G+1) W6 (.slice kp k kcap) ((t.columns.take k).map Col.type) kcs' [.int .i64 m1,.string m2,.int .i64 m3,.slice m4 m5 m6,.slice m7 m8 m9] x.type rfl HOK6.out rfl HTy6.out (by simp [Value.oneCell']) k HKL.out (by omega) (by have:=HS6.out;have:=HS5.out;have:=HS4.out;omega) ?_;intro p7 cap7 css7 w7 hO7 hL7;have HO7:=Qq hO7;have HL7:=Qq hL7;have hB7:=(hL7.other G (by have:=HS6.out;have:=HS5.out;have:=HS4.out;omega) (fun e=>by have:=(HOK6.out.row.lt G e.symm).1;omega)).trans HB6.out;have f47:=fA 4 hB7;have c47:=rA4 hB7;have HB7:=Qq hB7;clear hO7 hL7 hB7)
  go_roundw
  case measure=>simp [intOf];omega
  case rel=>
   have htn:(t.columns.take (k+1)).map Col.name=(t.columns.take k).map Col.name++[x.name]:=by
    obtain ⟨hk',rfl⟩:=Qj HX.out
    rw [List.take_succ_eq_append_getElem hk',List.map_append];rfl
   have htk:(t.columns.take (k+1)).map Col.type=(t.columns.take k).map Col.type++[x.type]:=by
    obtain ⟨hk',rfl⟩:=Qj HX.out
    rw [List.take_succ_eq_append_getElem hk',List.map_append];rfl
   have hG2:=HM.out.hG
   obtain ⟨_,hONr⟩:=HM.out.names
   have e6:=HS6.out
   have e5:=HS5.out
   have e4:=HS4.out
   have k7:∀ b,b<W6.heap.size→some b≠(Value.slice kp k kcap).ownBlock→b≠G→(w7.setCell ⟨G,4,none⟩ (.slice p7 (k+1) cap7)).heap[b]?=W6.heap[b]?:=fun b hb hne hbG=>by
    rw [Qg hbG,HL7.out.other b hb hne]
   have kall:∀ b,b<G→(w7.setCell ⟨G,4,none⟩ (.slice p7 (k+1) cap7)).heap[b]?=wr.heap[b]?:=fun b hb=>by
    rw [k7 b (by omega) (fun e=>by have:=(HOK6.out.row.lt b e.symm).1;omega) (by omega),HK6.out b (by omega) (fun e=>by have:=(hONr.row.lt b e.symm).1;omega) (by omega)]
   refine ⟨k+1,p5,cap5,p7,cap7,by omega,by go_num,⟨(HBel6.out.trans (HL7.out.below.mono (by omega))).setCell (p:=⟨G,4,none⟩) (show w.heap.size≤G by omega) _,hG2,?_,?_,⟨css5,?_⟩,⟨css7,?_⟩,?_⟩⟩
   ·rw [heap_setCell_same _ _ _ _ _ _ HB7.out];rfl
   ·rw [kall _ (by omega)];exact HM.out.res
   ·rw [htn]
    refine HON6.out.move (Q9 _) (fun b hb h=>?_)
    rcases h with h | h
    ·have h':b<G:=h.1
     exact k7 b hb (fun e=>by have:=(HOK6.out.row.lt b e.symm).1;omega) (by omega)
    have h':=(HON6.out.row.lt b h).1
    exact k7 b hb (fun e=>Zs HON6.out.row HOK6.out.row (by decide) h e.symm) (by omega)
   ·rw [htk]
    refine HO7.out.move (Q9 _) (fun b _ h=>Qg ?_)
    rcases h with h | h
    ·have h':b<G:=h.1
     show b≠G
     omega
    have h':=(HO7.out.row.lt b h).1
    show b≠G
    omega
   exact HM.out.cols.frame (fun b hb _=>kall b hb.1)
 have hkn':k=n:=by omega
 subst hkn'
 have r0:=Qk _ _ 0 _ _ _ hM.res
 have fz:=fun j=>frozen_of_row _ _ j _ _ hM.res
 have rr:=fun j=>Qk _ _ j _ _ _ hM.res
 have fz0:=fz 0;have fz1:=fz 1;have fz2:=fz 2;have fz3:=fz 3;have fz4:=fz 4
 have rr0:=rr 0;have rr1:=rr 1;have rr2:=rr 2;have rr3:=rr 3;have rr4:=rr 4
 simp only [List.getElem?_toArray,List.getElem?_cons_zero,List.getElem?_cons_succ] at rr0 rr1 rr2 rr3 rr4
 have hG2:=hM.hG
 clear fr fz rr hM r0
 go_wp2_with fail
 show bodyPost _ _ _ _ _ (Zz wr _ _ _ _ _ _)
 refine Q7 (v:=.agg #[.int .i64 5,.string ⟨#[]⟩,.int .i64 0,.slice np k ncap,.slice kp k kcap]) (by simp [results,results86,go_sem,Qm HM.out.res]) rfl ⟨_,rfl,?_,Qo HM.out.below (by omega)⟩
 obtain ⟨ncs,hON⟩:=HM.out.names
 obtain ⟨kcs,hOK⟩:=HM.out.kids
 rw [List.take_of_length_le (by have:=HN.out;omega)] at hON hOK
 refine Jj (s:=[]) (by simp) ?_ ?_
 ·refine ((hON.sl (by rw [List.length_map];have:=HN.out;omega) (S':=fun b=>b≠w.heap.size+1) (fun b hb=>?_) (fun b _ hb=>hb.2)).frame (fun b hb _=>Qu hb)).mono (fun _ _ _=>trivial)
  omega
 refine ((hOK.sl (by rw [List.length_map];have:=HN.out;omega) (S':=fun b=>b≠w.heap.size+1) (fun b hb=>?_) (fun b _ hb=>hb.2)).frame (fun b hb _=>Qu hb)).mono (fun _ _ _=>trivial)
 omega
end Go.Proofs.YtppbaladeefnkaaGreatDoor
