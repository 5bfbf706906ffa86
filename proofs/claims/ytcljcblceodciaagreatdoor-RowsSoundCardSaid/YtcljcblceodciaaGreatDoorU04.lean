import Derived.Test.YtcljcblceodciaaGreatDoorU03
set_option maxRecDepth 100000
set_option maxHeartbeats 400000000
namespace Go.Proofs.YtcljcblceodciaaGreatDoor
open Go.RowKit Go.Shelf Go.Lib Tryz
def X7 (v:Val) (i:Int):Bool:=decide (v.kind=4)&&decide (0≤i)&&decide (i<v.kids.length)
def Xf (v:Val) (x:Bs):Int:=Vx (fun y=>decide (y=x)) v.names
theorem Mn {k:IntKind} {a b:Int} {c d:Bool} (h:a=b) (h':c=d):Ending.returned (.tuple #[.int k a,.bool c])=.returned (.tuple #[.int k b,.bool d]):=by rw [h,h']
theorem Yz (w:World) (q:Nat):Below w w (w.drewN q):=⟨rfl,rfl,rfl,Q9 _,fun _ _=>rfl⟩
theorem Hs (S:Nat→Prop) (v:Val) (cs:List Value) (x:Bs) (w:World) (h:Z9 S w cs v):
  Calls prog 69 #[cs,sv x] w fun e w'=>e=.returned (.tuple #[(Xf v x),.bool (X7 v (Xf v x))])∧Below w w w':=by
 obtain ⟨p3,k3,p4,k4,I,hn,hk,_⟩:=Z9.cells h
 simp only [vcs] at I
 subst I
 have G:=Qq (fun W (hb:Below w w W)=>Dn S _ v.names x W (hn.below hb))
 rw [show Vx (fun y=>decide (y=x)) v.names=Xf v x from rfl] at G
 have hl:v.kids.length≤1000000:=by obtain ⟨_,_,_,h⟩:=hk.len;exact h
 generalize Xf v x=i at G ⊢
 clear h hn hk
 unfold sv at G ⊢
 by_cases h4:v.kind=4
 ·have J:(v.kind==4)=true:=by rw [h4];rfl
  by_cases h0:0≤i
  ·by_cases hlt:i<v.kids.length
   ·have A:X7 v i=true:=by unfold X7;simp [h4,h0,hlt]
    have D:=Qq A
    rw [h4] at *
    clear A J h4
    go_enter func69,ntmps69
    go_wp2_with (go_at_call 127;refine (G.out _ (Zg _ _)).mono ?_;rintro e w' ⟨rfl,rfl⟩)
    go_quiet (fail)
    go_wp2
    go_ret2
    exact ⟨Mn rfl D.out.symm,(Zg _ _).thn (Yz _ _)⟩
   have A:X7 v i=false:=by unfold X7;simp [hlt]
   have D:=Qq A
   have hd:decide (i<v.kids.length)=false:=by simpa using hlt
   rw [h4] at *
   clear A J h4 hlt
   go_enter func69,ntmps69
   go_wp2_with (go_at_call 127;refine (G.out _ (Zg _ _)).mono ?_;rintro e w' ⟨rfl,rfl⟩)
   go_quiet (fail)
   go_wp2
   go_ret2
   exact ⟨Mn rfl D.out.symm,(Zg _ _).thn (Yz _ _)⟩
  have A:X7 v i=false:=by unfold X7;simp [h0]
  have D:=Qq A
  have hd:decide (0≤i)=false:=by simpa using h0
  rw [h4] at *
  clear A J h4 h0
  go_enter func69,ntmps69
  go_wp2_with (go_at_call 127;refine (G.out _ (Zg _ _)).mono ?_;rintro e w' ⟨rfl,rfl⟩)
  go_quiet (fail)
  go_wp2
  go_ret2
  exact ⟨Mn rfl D.out.symm,(Zg _ _).thn (Yz _ _)⟩
 have A:X7 v i=false:=by unfold X7;simp [h4]
 have D:=Qq A
 have J:(v.kind==4)=false:=by simpa using h4
 clear A h4
 go_enter func69,ntmps69
 go_wp2_with (go_at_call 127;refine (G.out _ (Zg _ _)).mono ?_;rintro e w' ⟨rfl,rfl⟩)
 go_quiet (fail)
 go_wp2
 go_ret2
 exact ⟨Mn rfl D.out.symm,(Zg _ _).thn (Yz _ _)⟩
theorem Gy {v u:Val} {x:Bs} (h:Yt v x=some u):∃ i:Nat,Xf v x=i∧v.kids[i]?=some u∧X7 v (Xf v x)=true:=by
 unfold Yt at h
 split at h
 ·rename_i h4
  cases hn:Df v.names x with
  | none=>rw [hn] at h;cases h
  | some i=>
   rw [hn] at h
   have hi:Xf v x=i:=by
    unfold Df at hn
    unfold Xf Vx
    rw [hn]
   have A:=(Qj h).1
   refine ⟨i,hi,h,?_⟩
   rw [hi];unfold X7
   simp [h4,A]
 cases h
theorem Hr {v:Val} {x:Bs} (h:Yt v x=none):X7 v (Xf v x)=false:=by
 unfold Yt at h
 unfold X7
 split at h
 ·cases hn:Df v.names x with
  | none=>
   have A:Xf v x=-1:=by
    unfold Df at hn
    unfold Xf Vx
    rw [hn]
   rw [A];simp
  | some i=>
   rw [hn] at h
   have A:Xf v x=i:=by
    unfold Df at hn
    unfold Xf Vx
    rw [hn]
   rw [List.getElem?_eq_none_iff] at h
   rw [A];simp;intro _;omega
 rename_i h4
 simp [h4]
def Zi (W:World) (R:Nat) (a b c d e:Value):World:=((((W.setCell ⟨R,0,none⟩ a).setCell ⟨R,1,none⟩ b).setCell ⟨R,2,none⟩ c).setCell ⟨R,3,none⟩ d).setCell ⟨R,4,none⟩ e
def Cu (_ : World) (_ : Nat) (_ : Val) (_ : Option Addr) (_ : Nat) (_ : Option Addr) (_ : Nat) : Qjd := ⟨0⟩
instance Cu_w {W : World} {R : Nat} {v : Val} {p : Option Addr} {a : Nat} {q : Option Addr} {b : Nat} : CoeDep Qjd (Cu W R v p a q b) World := ⟨Zi W R (.int .i64 v.kind) (.int .i64 v.n) (.string ⟨v.s.toArray⟩) (.slice p v.names.length a) (.slice q v.kids.length b)⟩
theorem Yw {W:World} {R:Nat} {a b c d e x0 x1 x2 x3 x4:Value} {t:TypeId} (h:W.heap[R]?=some (.cells #[x0,x1,x2,x3,x4] t (0,0))):(Zi W R a b c d e).heap[R]?=some (.cells #[a,b,c,d,e] t (0,0)):=by
 have A:=Qi _ _ 0 _ _ a h;have A:=Qi _ _ 1 _ _ b A;have A:=Qi _ _ 2 _ _ c A;have A:=Qi _ _ 3 _ _ d A;have A:=Qi _ _ 4 _ _ e A
 simpa [Zi] using A
theorem Ze {W:World} {R:Nat} {a b c d e x0 x1 x2 x3 x4:Value} {t:TypeId} (h:W.heap[R]?=some (.cells #[x0,x1,x2,x3,x4] t (0,0))) (j:Nat):(Zi W R a b c d e).cell? ⟨R,j,none⟩=#[a,b,c,d,e][j]?:=
 Qk _ _ _ _ _ _ (Yw h)
theorem Zf {W:World} {R k:Nat} {a b c d e:Value} (h:k≠R):(Zi W R a b c d e).heap[k]?=W.heap[k]?:=Xn h
theorem Zc {B R:Nat} {w W:World} {a b c d e:Value} (h:Below B w W) (hR:B≤R):Below B w (Zi W R a b c d e):=
 ((((h.setCell (p:=⟨R,0,none⟩) hR _).setCell (p:=⟨R,1,none⟩) hR _).setCell (p:=⟨R,2,none⟩) hR _).setCell (p:=⟨R,3,none⟩) hR _).setCell (p:=⟨R,4,none⟩) hR _
def Lg (w:World) (o:Option Val) (e:Ending) (w':World):Prop:=
 ∃ cs',e=.returned (.tuple #[.agg cs'.toArray,.bool o.isSome])∧Z9 (fun b=>w≤b) w' cs' (o.getD Val.zero)∧Below w w w'
theorem Yi (S:Nat→Prop) (w:World):Z9 S w [Ci,Ci,Cl,Cm,Cm] Val.zero:=
 Y5 (s:=[]) Ca (Sl.nil _ _ _) (Sl.nil _ _ _)
theorem K8 (S:Nat→Prop) (v:Val) (cs:List Value) (x:Bs) (w:World) (h:Z9 S w cs v):
  Calls prog 19 #[cs,sv x] w (Lg w (Yt v x)):=by
 have U:=Qq (fun W (hb:Below w w W)=>Hs S v cs x W (h.move (.of_below hb) Qje))
 obtain ⟨p3,k3,p4,k4,G,hn,hk,_⟩:=Z9.cells h
 simp only [vcs] at G
 subst G
 have HK:=Qq hk
 clear h hn hk
 unfold sv at U ⊢
 cases hg:Yt v x with
 | none=>
  rw [Hr hg] at U
  clear hg
  generalize Xf v x=i at U
  go_enter func19,ntmps19
  go_wp2_with (go_at_call 69;refine (U.out _ (Zu _ _ _)).mono ?_;rintro e w' ⟨rfl,I⟩;have HW:=Qq I;have hz:=I.size;obtain ⟨hc,hf⟩:=Hw I;have r0:=fun o=>(hf (w+1) o Ca);clear I)
  have Y:=(HW.out.block (w+1) Ca).trans (Q6 _ _ _)
  show bodyPost _ _ _ _ _ (Zi w' _ _ _ _ _ _)
  refine Q7 (v:=.tuple #[.agg zV,.bool false]) (by simp [results,results19,go_sem,Ze Y]) rfl ⟨_,rfl,Yi _ _,?_⟩
  exact Zc ((Zu w _ _).thn HW.out) C7
 | some u=>
  obtain ⟨i,hi,O,hb⟩:=Gy hg
  rw [hb,hi] at U
  obtain ⟨b,aK,q3,l3,q4,l4,rfl,D,V,d0,d1,d2,d3,d4⟩:=HK.out.val O
  have aI:i<v.kids.length:=(Qj O).1
  have aG:(0:Int)≤(i:Int):=C7
  have aH:(i:Int)<(v.kids.length:Int):=C7
  have aD:b<w.heap.size+1:=C7
  have HV:=Qq V
  clear hg hi O hb V
  go_enter func19,ntmps19
  go_wp2_with fail
  refine (U.out _ (Zu _ _ _)).mono ?_
  rintro e w1 ⟨rfl,I⟩
  have HW:=Qq I
  have A:=(Zu w _ _).thn I
  have Y:=(I.block (w+1) Ca).trans (Q6 _ _ _)
  have hX:=(I.block w (by simp;omega)).trans (Q5 _ _ _)
  have e0:=kD A D d0;have e1:=kD A D d1;have e2:=kD A D d2;have e3:=kD A D d3;have e4:=kD A D d4
  have x4:=rA4 hX
  have M:=Qq A;have HR:=Qq Y
  clear I A hX Y d0 d1 d2 d3 d4
  go_wp2_with fail
  refine (Fj u _ (vcs u q3 l3 q4 l4) _ (Z9.move HV.out (.of_below M.out) Qje)).mono ?_
  rintro e w2 ⟨aF,rfl,T,N⟩
  obtain ⟨r3,m3,r4,m4,G,_⟩:=Z9.cells T
  simp only [vcs] at G
  subst G
  have J:=kB N HR.out
  have f:=fun j=>Qn _ _ j _ _ J
  have y:=fun j=>Qk _ _ j _ _ _ J
  obtain ⟨y0,y1,y2,y3,y4⟩:=Qjw y
  obtain ⟨f0,f1,f2,f3,f4⟩:=Qjw f
  simp only [Qf,Qg,Qh] at y0 y1 y2 y3 y4
  obtain ⟨Z,aB,aA⟩:=Qjq N T J
  clear N T J f y
  go_wp2_with fail
  show bodyPost _ _ _ _ _ (Zi w2 _ _ _ _ _ _)
  refine Q7 (v:=.tuple #[.agg (Cn u r3 m3 r4 m4),.bool true]) (by simp [results,results19,go_sem,Ze aA.out]) rfl ⟨_,rfl,?_,Zc (M.out.thn Z.out) C7⟩
  have aJ:=M.out.size
  have aE:=Z8 HR.out
  refine Z9.move aB.out (fun b hb _=>Zf ?_) (fun b _ hb=>?_)
  ·have:w1.heap.size≤b:=hb
   omega
  have:w1.heap.size≤b:=hb
  show w≤b
  omega
def Srt {T:Type} (cf:T→T→Int) (xs:List T):Prop:=∀ (i j:Nat) (x y:T),i<j→xs[i]?=some x→xs[j]?=some y→0≤cf y x
def CmpOn {T:Type} (P:Program) (g:Nat) (r:Rd T) (S:Nat→Prop) (cf:T→T→Int):Prop:=
 ∀ (W:World) (x y:T) (cx cy:List Value),r.R S W cx x→r.R S W cy y→Calls P g #[cx,cy] W fun e w'=>e=.returned (.int .i64 (cf x y))∧Gr W w'
theorem B2 {α:Type} [Inhabited α] (lt:α→α→Bool) (a b:Nat) (d:Array α) (h:∀ j,a<j→j<b→lt d[j]! d[j - 1]! = false):∀ (k i:Nat),b - i≤k→a<i→Sort.insOuter lt a b i d=d:=by
 intro k
 induction k with
 | zero=>intro i hi _;exact insOuter_stop _ _ _ _ _ C7
 | succ k ih=>
  intro i hi ha
  by_cases hlt:i<b
  ·rw [insOuter_go _ _ _ _ _ hlt,insInner_stop _ _ _ _ (.inr (h i ha hlt))]
   exact ih (i+1) C7 C7
  exact insOuter_stop _ _ _ _ _ hlt
theorem B0 {α:Type} [Inhabited α] (enc:α→List Value) (k:Nat) (w:World) (g m:Nat) (dk:Array α) (os:Array Obj) (b:Nat) (hb:b<w) (hne:b≠g):(sortWorldK enc k w g 0 m dk os).heap[b]?=w.heap[b]?:=by
 unfold sortWorldK Sort.putRowK Sort.putRow Sort.mapBlock Sort.grow Sort.ahead
 simp only
 rw [Array.getElem?_append_left (by simpa using hb),Array.getElem?_modify,if_neg (fun e=>hne e.symm)]
def El {T:Type} (r:Rd T) (S:Nat→Prop) (w:World):Type:={ p:List Value × T // r.R S w p.1 p.2 }
section
variable {P:Program} {ρ:Ren} {T:Type}
theorem Aw (L:SlLaysF0.n20 P ρ) (r:Rd T) (hk0:0<r.k) (E:TypeId) (aE:∀ w,(isAgg (ρ.t 24)).run P w=.ok true w) (zE:∀ w,(Go.sizeOf (ρ.t 24)).run P w=.ok r.k w) (h1:∀ S w cs x,r.R S w cs x→∀ u ∈ cs,u.oneCell'=true)
  (cf:T→T→Int) (g:Nat) (eg:∀ args w,(callFunc g args).run P w=.ok (.enter g args) w) (S:Nat→Prop) (B:Nat) (w:World) (q cap:Nat) (xs:List T) (css:List (List Value)) (hO:Own r E S B w (.slice (some ⟨q,0,none⟩) xs.length cap) xs css)
  (z:List Value) (zt:T) (hz:r.R (But S (.slice (some ⟨q,0,none⟩) xs.length cap)) w z zt)
  (hc:CmpOn P g r (But S (.slice (some ⟨q,0,none⟩) xs.length cap)) cf) (ho:Srt cf xs) (hl:xs.length≤1000000) (a b:Nat) (hab:a≤b) (hb:b≤xs.length):
  Calls P (ρ.f 20) #[Cg q 0 xs.length cap,a,b,.func (.func g) #[] #[]] w fun e w'=>e=.returned (.tuple #[])∧Gr w w':=by
 haveI:Inhabited (El r (But S (.slice (some ⟨q,0,none⟩) xs.length cap)) w):=⟨⟨(z,zt),hz⟩⟩
 obtain ⟨l,N,M⟩:=Gl xs.length (fun i (e:El r (But S (.slice (some ⟨q,0,none⟩) xs.length cap)) w)=>css[i]?=some e.1.1∧xs[i]?=some e.1.2) (fun i U=>by
  have h1:=Qx (l:=css) (i:=i) (by rw [hO.cs.len];exact U)
  have O:=Qx U
  exact ⟨⟨(_,_),hO.cs.R i _ _ h1 O⟩,h1,O⟩)
 have D:l.toArray.size=xs.length:=by simpa using N
 have A:∀ i,i<xs.length→css[i]?=some (l.toArray[i]!).1.1∧xs[i]?=some (l.toArray[i]!).1.2:=by
  intro i U
  refine M i _ ?_
  rw [Qx C7]
  simp [N,U]
 have hq:=(hO.row.lt q rfl).2
 have hH:Sort.HoldsK (fun e:El r (But S (.slice (some ⟨q,0,none⟩) xs.length cap)) w=>e.1.1) r.k w q 0 l.toArray:=by
  intro j V
  rw [Sort.size_flatK,D] at V
  have Y:j / r.k<xs.length:=Nat.div_lt_of_lt_mul (by rwa [Nat.mul_comm])
  have hg:=A _ Y
  refine ⟨?_,by rw [Nat.zero_add];exact hO.row.frozenAt j⟩
  rw [Nat.zero_add,hO.row.cellAt j V]
  have I:j % r.k<(l.toArray[j / r.k]!).1.1.length:=by rw [r.len (l.toArray[j / r.k]!).2];exact Nat.mod_lt _ hk0
  have:=Vv hO.cs.all hg.1 (Qx I)
  rw [Nat.div_add_mod' j r.k] at this
  rw [this,Sort.get_flatK _ _ _ _ (by rw [D];exact V),getElem!_pos ((l.toArray[j / r.k]!).1.1) (j % r.k) I]
  rfl
 have J:CmpLays P g #[] (fun e:El r (But S (.slice (some ⟨q,0,none⟩) xs.length cap)) w=>e.1.1) r.k (fun x y=>cf x.1.2 y.1.2) q 0 l.toArray.size w:=by
  intro m os dk _ x y
  have hA:Uf (But S (.slice (some ⟨q,0,none⟩) xs.length cap)) w (sortWorldK (fun e:El r (But S (.slice (some ⟨q,0,none⟩) xs.length cap)) w=>e.1.1) r.k w q 0 m dk os):=fun b hb Z=>B0 _ _ _ _ _ _ _ b Z (fun e=>hb.2 (by rw [e];rfl))
  exact hc _ x.1.2 y.1.2 _ _ (r.frame x.2 hA) (r.frame y.2 hA)
 have G:=AnyQ.insertionSortCmpFunc (ρ:=ρ) L r.k aE zE (fun e:El r (But S (.slice (some ⟨q,0,none⟩) xs.length cap)) w=>e.1.1) (fun e=>r.len e.2) (fun e=>h1 _ _ _ _ e.2) (fun x y=>cf x.1.2 y.1.2) g #[] q 0 cap a b l.toArray w eg J hH hq hab (by rw [D];exact hb) (by rw [D];omega)
 rw [D] at G
 refine G.mono ?_
 rintro e w' ⟨rfl,n,os,rfl⟩
 refine ⟨rfl,?_⟩
 have hs:Sort.insertionSort (ltOf fun (x y:El r (But S (.slice (some ⟨q,0,none⟩) xs.length cap)) w)=>cf x.1.2 y.1.2) l.toArray a b=l.toArray:=by
  refine B2 _ _ _ _ (fun j aA aB=>?_) _ _ (Q9 _) C7
  have O:=(A j C7).2
  have h3:=(A (j - 1) C7).2
  have:=ho (j - 1) j _ _ C7 h3 O
  simp only [ltOf,decide_eq_false_iff_not]
  omega
 rw [hs]
 unfold sortWorldK
 rw [Sort.putRowK_self _ _ _ _ _ _ (Sort.holdsK_ahead _ _ _ _ _ _ _ hH)]
 exact ⟨n,os,rfl⟩
end
open Go.RowKit
structure Hg (B:Nat) (w w1:World) (v v1:Value):Prop where
 below:Below B w w1
 size:w≤w1.heap.size
 other:∀ b,b<w.heap.size→some b≠v.ownBlock→w1.heap[b]?=w.heap[b]?
 at':v1.ownBlock=v.ownBlock∨∃ g,v1.ownBlock=some g∧w.heap.size≤g
theorem Wv {B:Nat} {w w1:World} {o:Obj} {v v1:Value} (hg:(w.alloc o).grownBy w1 v.ownBlock) (hv:∀ g,v.ownBlock=some g→B≤g) (hB:B≤w) (hat:v1.ownBlock=v.ownBlock∨v1.ownBlock=some (w.alloc o).heap.size):Hg B w w1 v v1:=by
 have hb:Below B w w1:=((Qz B w).alloc hB o).grown hg (by simp;omega) hv
 refine ⟨hb,hb.size,fun b A D=>?_,?_⟩
 ·rw [hg.block b (by simp;omega) (fun e=>D e),Below.heap_alloc w o b A]
 rcases hat with h | h
 ·exact .inl h
 exact .inr ⟨_,h,Ca⟩
theorem Own.move {T:Type} {r:Rd T} {E:TypeId} {S:Nat→Prop} {B B':Nat} {w w':World} {v:Value} {xs:List T} {css:List (List Value)} (h:Own r E S B w v xs css) (hB:B'≤B) (hA:∀ b,b<w.heap.size→(S b∨v.ownBlock=some b)→w'.heap[b]?=w.heap[b]?):Own r E S B' w' v xs css:=by
 refine ⟨⟨h.row.1,?_⟩,h.cs.move (fun b hS A=>hA b A (.inl hS.1)) Qje⟩
 rcases h.row.2 with hn | ⟨g,cap,cur,rfl,hg,hh,rest⟩
 ·exact .inl hn
 exact .inr ⟨g,cap,cur,rfl,C7,(hA g (Array.getElem?_eq_some_iff.1 hh).1 (.inr rfl)).trans hh,rest⟩
theorem Yh {w:World} {B B':Nat} {e e':TypeId} {k k' n n':Nat} {v v':Value} {xs ys:List Value} (h:w.ownsRow B e k v n xs) (h':w.ownsRow B' e' k' v' n' ys) (hne:e≠e') {g:Nat} (hg:v.ownBlock=some g):v'.ownBlock≠some g:=by
 intro A
 rcases h.2 with ⟨rfl,_⟩ | ⟨a,cap,J,rfl,_,hh,_⟩
 ·cases hg
 rcases h'.2 with ⟨rfl,_⟩ | ⟨a',G,I,rfl,_,D,_⟩
 ·cases A
 have e1:a=g:=Qb hg
 have e2:a'=g:=Qb A
 subst e1;subst e2
 rw [hh] at D
 injection D with h1
 injection h1 with _ h2
 exact hne h2
section
variable {P:Program} {T:Type}
theorem Yg {r:Rd T} (hk:0<r.k) {ops:Array Oper} {rest:List Oper} {o:Oper} {a:Act} {Q:Exit→Act→World→Prop} (hgd:o.guard=none) (s x:Operand) (t:TypeId)
  (ho:o.op=.call { callee:=.builtin .append,args:=#[s,x],argTypes:=#[t,t] }) (E:TypeId) (i:TypeInfo) (z:Value) (bytes:Nat) (ht:P.underlying t=some (.slice E)) (hi:P.info? E=some i) (hz:i.zero=some z)
  (hsize:i.size=r.k) (hby:i.bytes=bytes) (hzs:z.cells.size=r.k) (hb1:bytes≤1000) (S:Nat→Prop) (B:Nat) (w:World) (v:Value) (xs:List T) (css:List (List Value)) (cs:List Value) (y:T) (hs:a.eval s=v)
  (hO:Own r E S B w v xs css) (hx:a.eval x=.slice (some ⟨w,0,none⟩) 1 1) (hR:r.R (But S v) w cs y) (h1:∀ u ∈ cs,u.oneCell'=true) (n:Nat) (hn:xs.length=n) (hl:n<1000000) (hB:B≤w)
  (h:∀ p cap css' N,Own r E S B N (.slice p (n+1) cap) (xs++[y]) css'→Hg B w N v (.slice p (n+1) cap)→wpList P ops Q rest (a.put o.dst (.slice p (n+1) cap)) N):
  wpList P ops Q (o::rest) a (w.alloc (.cells cs.toArray E)):=by
 subst hn
 have M:=r.len hR
 have J:Below w w (w.alloc (.cells cs.toArray E)):=(Qz _ _).alloc (Q9 _) _
 have G:Own r E S B (w.alloc (.cells cs.toArray E)) v xs css:=hO.below J
 refine wpList_append_own_at (P:=P) (w:=w.alloc (.cells cs.toArray E)) hgd s x t ho B E i z r.k bytes ht hi hz hsize hby hzs hk v xs.length css.flatten hs G.row ⟨w,0,none⟩ 1 1 cs hx (by rw [M,Nat.one_mul]) (fun j u hu=>?_) h1 (by unfold maxLen;omega) (by
   have:=Nat.mul_le_mul (show xs.length+1≤1000000 by omega) hb1
   omega) (by simp;omega) (fun v1 N D A _ I=>?_)
 ·rw [show (⟨w,0,none⟩:Addr).add j=⟨w,j,none⟩ by unfold Addr.add;split <;> simp_all]
  rw [Qk _ _ _ _ _ _ (Qw w _)]
  simpa using hu
 have O:=G.append (Cs.one (r.mono (r.frame hR (.of_below J)) Qje)) (ys:=[y]) (dss:=[cs]) (v':=v1) (w2:=N) (by simpa using D) A I
 rcases D.2 with ⟨_,hn⟩ | ⟨g,cap,U,rfl,_⟩
 ·omega
 exact h _ _ _ _ O (Wv A (fun g hg=>(hO.row.lt g hg).1) hB I)
end
theorem colZero (S:Nat→Prop) (w:World):X6.R S w [Cl,Ci,Cl,Ci,Cm,Cm] ⟨[],.mk 0 [] 0 [] []⟩:=
 ⟨_,rfl,Ca,Kk (s:=[]) Ca (Sl.nil _ _ _) (Sl.nil _ _ _)⟩
def Kq (a b:Col):Int:=Yc a.name b.name
theorem row1_on (S:Nat→Prop):CmpOn prog 68 X6 S Kq:=fun W x y cx cy hx hy=>row1_any S x y cx cy W hx hy
theorem insCol (S:Nat→Prop) (B:Nat) (w:World) (q cap:Nat) (xs:List Col) (css:List (List Value)) (hO:Own X6 76 S B w (.slice (some ⟨q,0,none⟩) xs.length cap) xs css)
  (ho:Srt Kq xs) (hl:xs.length≤1000000) (a b:Nat) (hab:a≤b) (hb:b≤xs.length):
  Calls prog 159 #[Cg q 0 xs.length cap,a,b,.func (.func 68) #[] #[]] w fun e w'=>e=.returned (.tuple #[])∧Gr w w':=
 Aw Tryz.insCol X6 Cc 76 isAgg76 sizeOf76 Sk Kq 68 (enters_of func68 Cd rfl) S B w q cap xs css hO _ _ (colZero _ _) (row1_on _) ho hl a b hab hb
theorem C6 (S:Nat→Prop) (B:Nat) (w:World) (q cap:Nat) (xs:List Col) (css:List (List Value)) (hO:Own X6 76 S B w (.slice (some ⟨q,0,none⟩) xs.length cap) xs css)
  (ho:Srt Kq xs) (hl:xs.length≤19):
  Calls prog 126 #[Cg q 0 xs.length cap,xs.length,.func (.func 68) #[] #[]] w fun e w'=>e=.returned (.tuple #[])∧Gr w w':=by
 have A:=Qq (insCol S B w q cap xs css hO ho C7 0 xs.length (Q8 _) (Q9 _))
 clear hO ho
 have h1:(xs.length:Int)<20:=C7
 generalize xs.length=n at A h1 hl ⊢
 rw [show ((0:Nat):Int)=0 from rfl] at A
 go_enter func126,ntmps126
 go_wp2_with fail
 go_loop [7,8] (fun a b=>a=.int .i64 0∧b=.int .i64 20) (fun _ _=>0)
 case atStart=>exact ⟨rfl,rfl⟩
 obtain ⟨rfl,rfl⟩:=hrel
 go_wp2_with (go_at_call 159;refine A.out.mono ?_;rintro e w' ⟨rfl,hw⟩)
 go_loopw [6] (fun s wr=>s=.int .i64 20∧Gr w wr) (fun _ _=>0)
 case atStart=>exact ⟨rfl,hw⟩
 obtain ⟨rfl,hB⟩:=hrel
 have HB:=Qq hB
 clear hB hw
 go_wp2_with fail
 go_end0
 exact ⟨rfl,HB.out⟩
theorem sortCol (S:Nat→Prop) (B:Nat) (w:World) (p:Option Addr) (cap:Nat) (xs:List Col) (css:List (List Value)) (hO:Own X6 76 S B w (.slice p xs.length cap) xs css)
  (ho:Srt Kq xs) (hl:xs.length≤19) (hne:xs≠[]):
  Calls prog 67 #[.slice p xs.length cap,.func (.func 68) #[] #[]] w fun e w'=>e=.returned (.tuple #[])∧Gr w w':=by
 have A:0<xs.length:=List.length_pos_iff.2 hne
 obtain ⟨q,D,hv,_⟩:=hO.row.form A
 simp only [Qr] at hv
 obtain ⟨rfl,-,rfl⟩:=hv
 have HI:=Qq (C6 S B w q cap xs css hO ho hl)
 clear hO ho hne A
 generalize xs.length=n at HI hl ⊢
 go_enter func67,ntmps67
 go_wp2_with (go_at_call 126;refine HI.out.mono ?_;rintro e w' ⟨rfl,hw⟩)
 go_end0
 exact ⟨rfl,hw⟩
theorem Yx.cells {S:Nat→Prop} {w:World} {cs:List Value} {x:Ex} (h:Yx S w cs x):∃ k s1 n s2 p1 n1 c1 p2 n2 c2 p3 n3 c3 a z,cs=[.int .i64 k,.string s1,.int .i64 n,.string s2,.slice p1 n1 c1,.slice p2 n2 c2,.slice p3 n3 c3,.int .i64 a,.int .i64 z]:=by
 cases h with
 | mk k nm n s names binds kids a z nv bv p cap b off cs hm hs hn hb=>
  obtain ⟨p1,c1,rfl,_⟩:=hn.len
  obtain ⟨p2,c2,rfl,_⟩:=hb.len
  exact ⟨_,_,_,_,_,_,_,_,_,_,_,_,_,_,_,rfl⟩
def tcs (t:Tbl) (cp:Option Addr) (cc:Nat) (kp:Option Addr) (kc:Nat) (rp:Option Addr) (rc:Nat) (k:Int) (s1:ByteArray) (n:Int) (s2:ByteArray) (p1:Option Addr) (n1 c1:Nat) (p2:Option Addr) (n2 c2:Nat) (p3:Option Addr) (n3 c3:Nat) (a z:Int):List Value:=
 [t.name,.slice cp t.columns.length cc,.slice kp t.key.length kc,.slice rp t.refs.length rc,k,.string s1,n,.string s2,.slice p1 n1 c1,.slice p2 n2 c2,.slice p3 n3 c3,a,z]
def Co (_ : Tbl) (_ : Option Addr) (_ : Nat) (_ : Option Addr) (_ : Nat) (_ : Option Addr) (_ : Nat) (_ : Int) (_ : ByteArray) (_ : Int) (_ : ByteArray) (_ : Option Addr) (_ _ : Nat) (_ : Option Addr) (_ _ : Nat) (_ : Option Addr) (_ _ : Nat) (_ _ : Int) : Qjd := ⟨0⟩
instance Co_l {x : Tbl} {g : Option Addr} {h : Nat} {i : Option Addr} {j : Nat} {l : Option Addr} {m : Nat} {k : Int} {s : ByteArray} {n : Int} {t : ByteArray} {p : Option Addr} {a b : Nat} {q : Option Addr} {c d : Nat} {r : Option Addr} {e f : Nat} {y z : Int} : CoeDep Qjd (Co x g h i j l m k s n t p a b q c d r e f y z) (List Value) := ⟨[.string ⟨x.name.toArray⟩, .slice g x.columns.length h, .slice i x.key.length j, .slice l x.refs.length m, .int .i64 k, .string s, .int .i64 n, .string t, .slice p a b, .slice q c d, .slice r e f, .int .i64 y, .int .i64 z]⟩
instance Co_a {x : Tbl} {g : Option Addr} {h : Nat} {i : Option Addr} {j : Nat} {l : Option Addr} {m : Nat} {k : Int} {s : ByteArray} {n : Int} {t : ByteArray} {p : Option Addr} {a b : Nat} {q : Option Addr} {c d : Nat} {r : Option Addr} {e f : Nat} {y z : Int} : CoeDep Qjd (Co x g h i j l m k s n t p a b q c d r e f y z) (Array Value) := ⟨#[.string ⟨x.name.toArray⟩, .slice g x.columns.length h, .slice i x.key.length j, .slice l x.refs.length m, .int .i64 k, .string s, .int .i64 n, .string t, .slice p a b, .slice q c d, .slice r e f, .int .i64 y, .int .i64 z]⟩
theorem Zt {S:Nat→Prop} {w:World} {cs:List Value} {t:Tbl} (h:Zm.R S w cs t):∃ cp cc kp kc rp rc k s1 n s2 p1 n1 c1 p2 n2 c2 p3 n3 c3 a z,cs=tcs t cp cc kp kc rp rc k s1 n s2 p1 n1 c1 p2 n2 c2 p3 n3 c3 a z∧t.name.length≤1000000 ∧
  Sl X6 S w (.slice cp t.columns.length cc) t.columns∧Sl Zh S w (.slice kp t.key.length kc) t.key∧Sl Kz S w (.slice rp t.refs.length rc) t.refs∧Yx S w (Cp k s1 n s2 p1 n1 c1 p2 n2 c2 p3 n3 c3 a z) t.check:=by
 obtain ⟨cv,kv,rv,ec,rfl,h1,h2,h3,h4,h5⟩:=h
 obtain ⟨cp,cc,rfl,_⟩:=h2.len
 obtain ⟨kp,kc,rfl,_⟩:=h3.len
 obtain ⟨rp,rc,rfl,_⟩:=h4.len
 obtain ⟨k,s1,n,s2,p1,n1,c1,p2,n2,c2,p3,n3,c3,a,z,rfl⟩:=h5.cells
 exact ⟨cp,cc,kp,kc,rp,rc,k,s1,n,s2,p1,n1,c1,p2,n2,c2,p3,n3,c3,a,z,rfl,h1,h2,h3,h4,h5⟩
def Fa (t:Tbl):Ty:=.mk 5 [] 0 (t.columns.map Col.name) (t.columns.map Col.type)
def RowIs (w:World) (t:Tbl) (e:Ending) (w':World):Prop:=∃ cs',e=.returned (.agg cs'.toArray)∧X5 (fun _=>True) w' cs' (Fa t)∧Below w w w'
structure RowMid (w:World) (G:Nat) (cp:Option Addr) (ccap:Nat) (xs:List Col) (k:Nat) (np:Option Addr) (ncap:Nat) (kp:Option Addr) (kcap:Nat) (wr:World):Prop where
 below:Below w w wr
 hG:w+2≤G
 box:wr.heap[G]?=some (.cells #[.int .i64 5,Cl,Ci,.slice np k ncap,.slice kp k kcap] 57 (0,0))
 res:wr.heap[w.heap.size+1]?=some (.cells zY 57 (0,0))
 names:∃ ncs,Own Zh 9 (fun b=>b<G∧b≠w+1) (G+1) wr (.slice np k ncap) ((xs.take k).map Col.name) ncs
 kids:∃ kcs,Own Jk 57 (fun b=>b<G∧b≠w+1) (G+1) wr (.slice kp k kcap) ((xs.take k).map Col.type) kcs
 cols:Sl X6 (fun b=>b<G∧b≠w+1) wr (.slice cp xs.length ccap) xs
theorem Tj (S0:Nat→Prop) (t:Tbl) (cs:List Value) (w:World) (h0:Zm.R S0 w cs t) (ho:Srt Kq t.columns) (hl:t.columns.length≤19) (hne:t.columns≠[]):
  Calls prog 18 #[cs] w (RowIs w t):=by
 have h:Zm.R (fun b=>b<w) w cs t:=Zm.mono h0 (fun b hb _=>hb)
 obtain ⟨fD,fC,fO,fN,fQ,fP,k0,s1,n0,s2,p1,n1,c1,p2,n2,c2,p3,n3,c3,a0,z0,rfl,bT,aL,_,_,_⟩:=Zt h
 unfold tcs
 obtain ⟨HC,HO,dO⟩:=Qjq aL ho hne
 obtain ⟨i9,j1,j2,j3,j4⟩:=Y7 (P:=prog) (t:=9) (z:=.string ⟨#[]⟩) (n:=1) (b:=16) Cd
 obtain ⟨eL,l1,l2,l3,l4⟩:=Y7 (P:=prog) (t:=57) (z:=.agg zY) (n:=5) (b:=80) Cd
 obtain ⟨HJ,dF,dG,dH,HL,dK,dL,dM⟩:=Qjy j1 j2 j3 j4 l1 l2 l3 l4
 clear h h0 aL ho hne j1 j2 j3 j4 l1 l2 l3 l4
 go_enter func18,ntmps18
 go_wp2_with fail
 refine (Ox _ _ t.columns _ (HC.out.below (Zu _ _ _))).mono ?_
 rintro e w1 ⟨cp,aE,dX,rfl,cN,aS⟩
 have aM:=(aS.block (w+1) Ca).trans (Q6 _ _ _)
 obtain ⟨dP,dA,bZ⟩:=Qjq aM ((Zu w _ _).thn aS) cN
 have eY:w.heap.size+2≤w1.heap.size:=by have:=aS.size;simpa using this
 clear aM aS cN
 go_wp2_with fail
 refine (sortCol _ _ _ cp aE t.columns dX bZ.out HO.out hl dO.out).mono ?_
 rintro e w2 ⟨rfl,bQ⟩
 have bI:=Qq bQ.bl
 have bA:w.heap.size+2≤w2.heap.size:=C8 bQ.bl.size
 clear bQ
 go_wp2_with fail
 obtain ⟨W3,aR⟩:=eX (w2.alloc (.cells #[.int .i64 5,Cl,Ci,Cm,Cm] 57))
 rw [aR]
 have cI:RowMid w w2 cp aE t.columns 0 none 0 none 0 W3:=by
  have bO:=eqB aR (Zg _ _)
  refine ⟨dA.out.thn (bI.out.thn bO),bA,by rw [← aR];exact Qw _ _,?_,⟨[],Own.nil _ _ _ _ _⟩,⟨[],Own.nil _ _ _ _ _⟩,?_⟩
  ·rw [bO.block _ C7,bI.out.block _ C7];exact dP.out
  refine (((bZ.out.sl C7 (S':=fun b=>b≠w+1) (fun b hb=>?_) (fun b _ hb=>?_)).below bI.out).mono (S':=fun b=>b<w2∧b≠w+1) (fun b hb h=>⟨hb,h⟩)).below bO
  ·have h2:w.heap.size+2≤b:=by simpa using hb
   omega
  have h2:b<w.heap.size:=hb
  omega
 have bY:=Qq cI
 clear cI aR
 obtain ⟨n,hn⟩:=eX (t.columns.length)
 rw [hn] at hl ⊢
 have HN:=Qq hn
 clear hn
 generalize hG:w2.heap.size=G at bY bA ⊢
 clear hG
 go_loopw [15] (fun i wr=>∃ (k:Nat) (np:Option Addr) (I:Nat) (kp:Option Addr) (A:Nat),k≤n∧i=.int .i64 k∧RowMid w G cp aE t.columns k np I kp A wr) (fun i _=>n - (intOf i).toNat)
 case atStart=>exact ⟨0,none,0,none,0,Q8 _,rfl,bY.out⟩
 obtain ⟨k,np,I,kp,A,fM,rfl,U⟩:=hrel
 have O:=Qq U
 have fr:=fun j=>Qn _ _ j _ _ U.box
 have c0:=rA0 U.box;have dS:=rA1 U.box;have dT:=rA2 U.box;have dV:=rA3 U.box;have c4:=rA4 U.box
 have cH:=Z8 U.box
 by_cases bS:k<n
 ·have fK:(0:Int)≤(k:Int):=C7
  have fL:(k:Int)<(n:Int):=C7
  obtain ⟨x,hx⟩:∃ x,t.columns[k]?=some x:=⟨_,Qx (by rw [HN.out];exact bS)⟩
  obtain ⟨cb,eV,cc,rfl,fJ,eW,-,eI,V⟩:=U.cols.elem hx
  obtain ⟨tc,eE,eK,bU⟩:=eI
  obtain ⟨m1,m2,m3,m4,m5,m6,m7,m8,m9,rfl⟩:=bU.cells
  subst eE
  have d0:=V 0 _ rfl;have d1:=V 1 _ rfl;have d2:=V 2 _ rfl;have d3:=V 3 _ rfl;have d4:=V 4 _ rfl;have d5:=V 5 _ rfl
  simp only [show X6.k=6 from rfl,Nat.add_zero] at d0 d1 d2 d3 d4 d5
  unfold sv at d0
  have HX:=Qq hx;have dQ:=Qq bU
  clear hx V bU c0 dS dT dV c4 fr U
  go_upto_region 7 with fail
  obtain ⟨W4,aI⟩:=eX (wr.alloc (.cells #[x.name,m1,.string m2,m3,.slice m4 m5 m6,.slice m7 m8 m9] 76))
  rw [aI]
  have aJ:=eqB aI (Zg _ _)
  have bB:W4=wr.heap.size+1:=by rw [← aI];simp
  have bN:=eqH (b:=wr.heap.size) aI (Qw _ _)
  obtain ⟨cO,aH⟩:=O.out.names
  obtain ⟨eN,aG⟩:=O.out.kids
  have bT:((t.columns.take k).map Col.name).length=k:=by rw [Z7,Qm,HN.out];omega
  have cL:((t.columns.take k).map Col.type).length=k:=by rw [Z7,Qm,HN.out];omega
  have aF:=(aJ.block G cH).trans O.out.box
  have c3:=Qk _ _ 3 _ _ _ aF;have c4:=Qk _ _ 4 _ _ _ aF;have f3:=fA 3 aF
  have q0:=Qk _ _ 0 _ _ _ bN
  simp only [Qf,Qg,Qh] at c3 c4 q0
  have aW:=aH.below aJ
  have aU:=aG.below aJ
  obtain ⟨cE,dR,dB,T,cC,eZ,dN,dJ⟩:=Qjy aJ bN aF bB aW aU bT cL
  clear aI aJ bN aF aH aG aW aU bT cL d0 d1 d2 d3 d4 d5 bB
  go_upto_region 8 with (at_builtin;refine Yg (r:=Zh) Cc rfl (.tmp 20) (.tmp 23) _ rfl 9 i9 (.string ⟨#[]⟩) 16 underlying33 HJ.out dF.out dG.out dH.out rfl C7 (fun b=>b<G∧b≠w+1) (G+1) W4 (.slice np k I) ((t.columns.take k).map Col.name) cO [x.name] x.name rfl cC.out rfl ⟨rfl,eK⟩ (by simp [Value.oneCell']) k dN.out C7 (C8 T.out) ?_;intro p5 M aT w5 cJ bL;have cA:=Qq cJ;have aN:=Qq bL;have aO:=(bL.other G (C8 T.out) (fun e=>by have:=(cC.out.row.lt G e.symm).1;omega)).trans dB.out;have eA:=fA 3 aO;have dW:=rA3 aO;have dC:=Qq aO;clear cJ bL aO)
  obtain ⟨W6,Z⟩:=eX (w5.setCell ⟨G,3,none⟩ (.slice p5 (k+1) M))
  rw [Z]
  have Y:∀ b,b≠G→W6.heap[b]?=w5.heap[b]?:=by intro b hb;rw [← Z];exact Za hb
  have bD:W6.heap.size=w5.heap.size:=by rw [← Z];simp [World.setCell]
  have aP:W6.heap[G]?=some (.cells #[.int .i64 5,Cl,Ci,.slice p5 (k+1) M,.slice kp k A] 57 (0,0)):=by rw [← Z,Qi _ _ _ _ _ _ dC.out];rfl
  have aZ:∀ g,(Value.slice np k I).ownBlock=some g→wr.heap.size≠g:=fun g hg e=>by
   obtain ⟨_,h⟩:=O.out.names
   have:=(h.row.lt g hg).2
   omega
  have aA:W6.heap[wr.heap.size]?=some (.cells #[x.name,m1,.string m2,m3,.slice m4 m5 m6,.slice m7 m8 m9] 76 (0,0)):=by
   rw [Y _ C7,aN.out.other _ (C8 T.out) (fun e=>aZ _ e.symm rfl)];exact dR.out
  have keep:∀ b,b<wr.heap.size→some b≠(Value.slice np k I).ownBlock→b≠G→W6.heap[b]?=wr.heap[b]?:=fun b hb hne bP=>by
   rw [Y b bP,aN.out.other b (C8 T.out) hne];exact cE.out.block b hb
  obtain ⟨_,D⟩:=O.out.names
  obtain ⟨bF,N⟩:=O.out.kids
  have aV:Own Jk 57 (fun b=>b<G∧b≠w+1) (G+1) W6 (.slice kp k A) ((t.columns.take k).map Col.type) bF:=N.move (Q9 _) (fun b hb h=>by
   rcases h with h | h
   ·exact keep b hb (fun e=>by have:=(D.row.lt b e.symm).1;omega) C7
   exact keep b hb (fun e=>Yh N.row D.row Cc h e.symm) (by have:=(N.row.lt b h).1;omega))
  have aX:Own Zh 9 (fun b=>b<G∧b≠w+1) (G+1) W6 (.slice p5 (k+1) M) ((t.columns.take k).map Col.name++[x.name]) aT:=cA.out.move (Q9 _) (fun b _ h=>Y b (by
   rcases h with h | h
   ·omega
   have:=(cA.out.row.lt b h).1;omega))
  have aY:Jk.R (But (fun b=>b<G∧b≠w+1) (.slice kp k A)) W6 [m1,.string m2,m3,.slice m4 m5 m6,.slice m7 m8 m9] x.type:=by
   refine X5.move dQ.out (fun b hb bS=>keep b bS (fun e=>by have:=(D.row.lt b e.symm).1;omega) C7) (fun b _ hb=>⟨hb,fun e=>?_⟩)
   have:=(N.row.lt b e.symm).1
   omega
  have bC:=aN.out.size
  have g4:=Qk _ _ 4 _ _ _ aP;have eB:=fA 4 aP
  have y1:=Qk _ _ 1 _ _ _ aA;have y2:=Qk _ _ 2 _ _ _ aA;have y3:=Qk _ _ 3 _ _ _ aA;have y4:=Qk _ _ 4 _ _ _ aA;have y5:=Qk _ _ 5 _ _ _ aA
  simp only [Qf,Qg,Qh] at g4 y1 y2 y3 y4 y5
  obtain ⟨dI,J,aC,cD,dD,bK,bJ⟩:=Qjx keep aV aX aY aP bD bC
  have aK:Below w w W6:=O.out.below.trans (by
   have h1:=cE.out.mono O.out.below.size
   have h2:=(aN.out.below.mono (show w≤G+1 by omega))
   have h3:=(h1.trans h2).setCell (p:=⟨G,3,none⟩) (show w≤G by omega) (.slice p5 (k+1) M)
   rwa [Z] at h3)
  have bH:=Qq aK
  clear Z Y bD aP aZ aA keep D N aV aX aY bC c3 c4 f3 q0 eA dW aK
  go_wp2_with (at_builtin;refine Yg (r:=Jk) Cc rfl (.tmp 27) (.tmp 30) _ rfl 57 eL (.agg zY) 80 underlying55 HL.out dK.out dL.out dM.out rfl C7 (fun b=>b<G∧b≠w+1) (G+1) W6 (.slice kp k A) ((t.columns.take k).map Col.type) bF [m1,.string m2,m3,.slice m4 m5 m6,.slice m7 m8 m9] x.type rfl J.out rfl cD.out (by simp [Value.oneCell']) k dJ.out C7 (by have:=bK.out;have:=bJ.out;have:=T.out;omega) ?_;intro p7 aD cF w7 cK bM;have cB:=Qq cK;have bX:=Qq bM;have aQ:=(bM.other G (by have:=bK.out;have:=bJ.out;have:=T.out;omega) (fun e=>by have:=(J.out.row.lt G e.symm).1;omega)).trans dD.out;have fE:=fA 4 aQ;have fB:=rA4 aQ;have dE:=Qq aQ;clear cK bM aQ)
  go_roundw
  case measure=>simp [intOf];omega
  case rel=>
   have eH:(t.columns.take (k+1)).map Col.name=(t.columns.take k).map Col.name++[x.name]:=by
    obtain ⟨bR,rfl⟩:=Qj HX.out
    rw [Zz bR,List.map_append];rfl
   have eG:(t.columns.take (k+1)).map Col.type=(t.columns.take k).map Col.type++[x.type]:=by
    obtain ⟨bR,rfl⟩:=Qj HX.out
    rw [Zz bR,List.map_append];rfl
   have cG:=O.out.hG
   obtain ⟨_,D⟩:=O.out.names
   have e6:=bK.out
   have e5:=bJ.out
   have e4:=T.out
   have k7:∀ b,b<W6.heap.size→some b≠(Value.slice kp k A).ownBlock→b≠G→(w7.setCell ⟨G,4,none⟩ (.slice p7 (k+1) aD)).heap[b]?=W6.heap[b]?:=fun b hb hne bP=>by
    rw [Za bP,bX.out.other b hb hne]
   have bE:∀ b,b<G→(w7.setCell ⟨G,4,none⟩ (.slice p7 (k+1) aD)).heap[b]?=wr.heap[b]?:=fun b hb=>by
    rw [k7 b C7 (fun e=>by have:=(J.out.row.lt b e.symm).1;omega) C7,dI.out b C7 (fun e=>by have:=(D.row.lt b e.symm).1;omega) C7]
   refine ⟨k+1,p5,M,p7,aD,C7,by go_num,⟨(bH.out.trans (bX.out.below.mono C7)).setCell (p:=⟨G,4,none⟩) (show w≤G by omega) _,cG,?_,?_,⟨aT,?_⟩,⟨cF,?_⟩,?_⟩⟩
   ·rw [Qi _ _ _ _ _ _ dE.out];rfl
   ·rw [bE _ C7];exact O.out.res
   ·rw [eH]
    refine aC.out.move (Q9 _) (fun b hb h=>?_)
    rcases h with h | h
    ·have h':b<G:=h.1
     exact k7 b hb (fun e=>by have:=(J.out.row.lt b e.symm).1;omega) C7
    have h':=(aC.out.row.lt b h).1
    exact k7 b hb (fun e=>Yh aC.out.row J.out.row Cc h e.symm) C7
   ·rw [eG]
    refine cB.out.move (Q9 _) (fun b _ h=>Za ?_)
    rcases h with h | h
    ·have h':b<G:=h.1
     show b≠G
     omega
    have h':=(cB.out.row.lt b h).1
    show b≠G
    omega
   exact O.out.cols.frame (fun b hb _=>bE b hb.1)
 have cM:k=n:=C7
 subst cM
 have r0:=Qk _ _ 0 _ _ _ U.res
 have fz:=fun j=>Qn _ _ j _ _ U.res
 have rr:=fun j=>Qk _ _ j _ _ _ U.res
 obtain ⟨fF,fG,fH,fI,eB⟩:=Qjw fz
 obtain ⟨eP,eQ,eR,eS,eT⟩:=Qjw rr
 simp only [Qf,Qg,Qh] at eP eQ eR eS eT
 have cG:=U.hG
 clear fr fz rr U r0
 go_wp2_with fail
 show bodyPost _ _ _ _ _ (Zi wr _ _ _ _ _ _)
 refine Q7 (v:=.agg #[.int .i64 5,Cl,Ci,.slice np k I,.slice kp k A]) (by simp [results,results18,go_sem,Ze O.out.res]) rfl ⟨_,rfl,?_,Zc O.out.below C7⟩
 obtain ⟨cO,aH⟩:=O.out.names
 obtain ⟨eN,aG⟩:=O.out.kids
 rw [Zj (C8 HN.out)] at aH aG
 refine Kk (s:=[]) Ca ?_ ?_
 ·refine ((aH.sl (by rw [Z7];have:=HN.out;omega) (S':=fun b=>b≠w+1) (fun b hb=>?_) (fun b _ hb=>hb.2)).frame (fun b hb _=>Zf hb)).mono (fun _ _ _=>trivial)
  omega
 refine ((aG.sl (by rw [Z7];have:=HN.out;omega) (S':=fun b=>b≠w+1) (fun b hb=>?_) (fun b _ hb=>hb.2)).frame (fun b hb _=>Zf hb)).mono (fun _ _ _=>trivial)
 omega
end Go.Proofs.YtcljcblceodciaaGreatDoor
