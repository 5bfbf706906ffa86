import Derived.Test.YtlanplhphiikjaaGreatDoorF16
import Derived.Test.YtlanplhphiikjaaGreatDoorF15
set_option maxRecDepth 100000
set_option maxHeartbeats 400000000
namespace Go.Proofs.YtlanplhphiikjaaGreatDoor
open Go.RowKit Go.Shelf Go.Lib Tryz
def Srt {T:Type} (cf:T->T->Int) (xs:List T):Prop:=∀ (i j:Nat) (x y:T),i<j->xs[i]?=some x->xs[j]?=some y->0<=cf y x
def CmpOn {T:Type} (P:Program) (g:Nat) (r:Rd T) (S:Nat->Prop) (cf:T->T->Int):Prop:=
 ∀ (W:World) (x y:T) (cx cy:List Value),r.R S W cx x->r.R S W cy y->Calls P g #[cx,cy] W fun e w'=>e=.returned (.int .i64 (cf x y))/\Gr W w'
theorem Dx {α:Type} [Inhabited α] (lt:α->α->Bool) (a b:Nat) (d:Array α) (h:∀ j,a<j->j<b->lt d[j]! d[j - 1]! = false):∀ (k i:Nat),b - i<=k->a<i->Sort.insOuter lt a b i d=d:=by
 intro k
 induction k with
 | zero=>intro i hi _;exact insOuter_stop _ _ _ _ _ Oa
 | succ k ih=>
  intro i hi ha
  by_cases hlt:i<b
  ·rw [insOuter_go _ _ _ _ _ hlt,insInner_stop _ _ _ _ (.inr (h i ha hlt))]
   exact ih (i+1) Oa Oa
  exact insOuter_stop _ _ _ _ _ hlt
theorem Vk {α:Type} [Inhabited α] (enc:α->List Value) (k:Nat) (w:World) (g m:Nat) (dk:Array α) (os:Array Obj) (b:Nat) (hb:b<w) (hne:b≠g):(sortWorldK enc k w g 0 m dk os).heap[b]?=w.heap[b]?:=by
 unfold sortWorldK Sort.putRowK Sort.putRow Sort.mapBlock Sort.grow Sort.ahead
 simp only
 rw [Array.getElem?_append_left (by simpa using hb),Array.getElem?_modify,if_neg (fun e=>hne e.symm)]
def El {T:Type} (r:Rd T) (S:Nat->Prop) (w:World):Type:={ p:List Value × T // r.R S w p.1 p.2 }
section
variable {P:Program} {ρ:Ren} {T:Type}
theorem O7 (L:SlLaysF0.n20 P ρ) (r:Rd T) (hk0:0<r.k) (E:TypeId) (aE:∀ w,(isAgg (ρ.t 24)).run P w=.ok true w) (zE:∀ w,(Go.sizeOf (ρ.t 24)).run P w=.ok r.k w) (h1:∀ S w cs x,r.R S w cs x->∀ u ∈ cs,u.oneCell'=true)
  (cf:T->T->Int) (g:Nat) (eg:∀ args w,(callFunc g args).run P w=.ok (.enter g args) w) (S:Nat->Prop) (B:Nat) (w:World) (q cap:Nat) (xs:List T) (css:List (List Value)) (hO:Own r E S B w (.slice (some ⟨q,0,none⟩) xs.length cap) xs css)
  (z:List Value) (zt:T) (hz:r.R (But S (.slice (some ⟨q,0,none⟩) xs.length cap)) w z zt)
  (hc:CmpOn P g r (But S (.slice (some ⟨q,0,none⟩) xs.length cap)) cf) (ho:Srt cf xs) (hl:xs.length<=1000000) (a b:Nat) (hab:a<=b) (hb:b<=xs.length):
  Calls P (ρ.f 20) #[Ol q 0 xs.length cap,a,b,.func (.func g) #[] #[]] w fun e w'=>e=.returned (.tuple #[])/\Gr w w':=by
 haveI:Inhabited (El r (But S (.slice (some ⟨q,0,none⟩) xs.length cap)) w):=⟨⟨(z,zt),hz⟩⟩
 obtain ⟨l,O,N⟩:=Um xs.length (fun i (e:El r (But S (.slice (some ⟨q,0,none⟩) xs.length cap)) w)=>css[i]?=some e.1.1/\xs[i]?=some e.1.2) (fun i V=>by
  have h1:=Qx (l:=css) (i:=i) (by rw [hO.cs.len];exact V)
  have U:=Qx V
  exact ⟨⟨(_,_),hO.cs.R i _ _ h1 U⟩,h1,U⟩)
 have G:l.toArray.size=xs.length:=by simpa using O
 have D:∀ i,i<xs.length->css[i]?=some (l.toArray[i]!).1.1/\xs[i]?=some (l.toArray[i]!).1.2:=by
  intro i V
  refine N i _ ?_
  rw [Qx Oa]
  simp [O,V]
 have hq:=(hO.row.lt q rfl).2
 have hH:Sort.HoldsK (fun e:El r (But S (.slice (some ⟨q,0,none⟩) xs.length cap)) w=>e.1.1) r.k w q 0 l.toArray:=by
  intro j Y
  rw [Sort.size_flatK,G] at Y
  have Z:j / r.k<xs.length:=Nat.div_lt_of_lt_mul (by rwa [Nat.mul_comm])
  have hg:=D _ Z
  refine ⟨?_,by rw [Nat.zero_add];exact hO.row.frozenAt j⟩
  rw [Nat.zero_add,hO.row.cellAt j Y]
  have J:j % r.k<(l.toArray[j / r.k]!).1.1.length:=by rw [r.len (l.toArray[j / r.k]!).2];exact Nat.mod_lt _ hk0
  have:=X8 hO.cs.all hg.1 (Qx J)
  rw [Nat.div_add_mod' j r.k] at this
  rw [this,Sort.get_flatK _ _ _ _ (by rw [G];exact Y),getElem!_pos ((l.toArray[j / r.k]!).1.1) (j % r.k) J]
  rfl
 have M:CmpLays P g #[] (fun e:El r (But S (.slice (some ⟨q,0,none⟩) xs.length cap)) w=>e.1.1) r.k (fun x y=>cf x.1.2 y.1.2) q 0 l.toArray.size w:=by
  intro m os dk _ x y
  have hA:Ys (But S (.slice (some ⟨q,0,none⟩) xs.length cap)) w (sortWorldK (fun e:El r (But S (.slice (some ⟨q,0,none⟩) xs.length cap)) w=>e.1.1) r.k w q 0 m dk os):=fun b hb aA=>Vk _ _ _ _ _ _ _ b aA (fun e=>hb.2 (by rw [e];rfl))
  exact hc _ x.1.2 y.1.2 _ _ (r.frame x.2 hA) (r.frame y.2 hA)
 have I:=AnyQ.insertionSortCmpFunc (ρ:=ρ) L r.k aE zE (fun e:El r (But S (.slice (some ⟨q,0,none⟩) xs.length cap)) w=>e.1.1) (fun e=>r.len e.2) (fun e=>h1 _ _ _ _ e.2) (fun x y=>cf x.1.2 y.1.2) g #[] q 0 cap a b l.toArray w eg M hH hq hab (by rw [G];exact hb) (by rw [G];omega)
 rw [G] at I
 refine I.mono ?_
 rintro e w' ⟨rfl,n,os,rfl⟩
 refine ⟨rfl,?_⟩
 have hs:Sort.insertionSort (ltOf fun (x y:El r (But S (.slice (some ⟨q,0,none⟩) xs.length cap)) w)=>cf x.1.2 y.1.2) l.toArray a b=l.toArray:=by
  refine Dx _ _ _ _ (fun j aB aC=>?_) _ _ (Q4 _) Oa
  have U:=(D j Oa).2
  have h3:=(D (j - 1) Oa).2
  have:=ho (j - 1) j _ _ Oa h3 U
  simp only [ltOf,decide_eq_false_iff_not]
  omega
 rw [hs]
 unfold sortWorldK
 rw [Sort.putRowK_self _ _ _ _ _ _ (Sort.holdsK_ahead _ _ _ _ _ _ _ hH)]
 exact ⟨n,os,rfl⟩
end
def encI (n:Int):Bs:=vb (zz 0)++vb (zz n)
theorem O3 (S:Nat->Prop) (v:Value) (xs:List UInt8) (w:World) (hs:Sl Yl S w v xs):Calls prog 39 #[v] w (U4 Yl 5 S w xs):=by
 obtain ⟨i0,h1,h2,h3,h4⟩:=Y3 (P:=prog) (t:=5) (z:=.int .u8 0) (n:=1) (b:=1) Og
 exact Kj Tryz.clByte Yl Of 1 i0 _ h1 h2 h3 h4 rfl sizeOf5 Oa Es S v xs w hs
theorem done_any (g:Nat) (w:World) (v:Value) (bs:Bs) (hA:WAt g w v bs) (hl:bs.length<=1000000):
  Calls prog 36 #[Om g] w (U4 Yl 5 (fun _=>True) w bs):=by
 obtain ⟨css,hO⟩:=hA.own
 have D:Sl Yl (fun _=>True) w v bs:=hO.sl hl (fun _ _=>trivial) (fun _ _ _=>trivial)
 have HC:=Qq (O3 _ v bs w D)
 obtain ⟨p,cap,rfl,_⟩:=D.len
 have c0:=rA0 hA.cell
 clear hA hO D
 go_enter func36,ntmps36
 go_wp2_with (go_at_call 39;refine HC.out.mono ?_;rintro e w' ⟨q,qc,qs,rfl,G,I⟩;have L:=Qq G;have J:=Qq I;clear G I)
 go_ret
 exact ⟨q,qc,qs,rfl,L.out,J.out⟩
theorem M0 (a:List Bs) (k:Bs) (row:Val):keyOf (a++[k]) row=(match keyOf a row,Yn row k with | some l,some v=>some (l++[v]) | _,_=>none):=by
 induction a with
 | nil=>
  show (match Yn row k,some [] with | some v,some l=>some (v::l) | _,_=>none)=_
  cases Yn row k <;> rfl
 | cons x a ih=>
  show (match Yn row x,keyOf (a++[k]) row with | some v,some l=>some (v::l) | _,_=>none)=(match (match Yn row x,keyOf a row with | some v,some l=>some (v::l) | _,_=>none),Yn row k with | some l,some v=>some (l++[v]) | _,_=>none)
  rw [ih]
  cases Yn row x <;> cases keyOf a row <;> cases Yn row k <;> rfl
theorem Lc {ks:List Bs} {k:Bs} {row:Val} (hk:k ∈ ks) (h:Yn row k=none):keyOf ks row=none:=by
 induction ks with
 | nil=>simp at hk
 | cons x ks ih=>
  show (match Yn row x,keyOf ks row with | some v,some l=>some (v::l) | _,_=>none)=none
  rcases Zy.1 hk with rfl | hk
  ·rw [h]
  rw [ih hk];cases Yn row x <;> rfl
def KeyIs (w:World) (o:Option (List Val)) (e:Ending) (w':World):Prop:=∃ p n cap,e=.returned (.slice p n cap)/\n=(o.getD []).length/\Sl Zc (fun b=>w<=b) w' (.slice p n cap) (o.getD [])/\Below w w w'
theorem Mo (S S':Nat->Prop) (t:Tbl) (row:Val) (ct cr:List Value) (w:World) (ht:Zg.R S w ct t) (hr:Z5 S' w cr row) (hkl:t.key.length<=1000):
  Calls prog 119 #[ct,cr] w (KeyIs w (keyOf t.key row)):=by
 have HG:=Qq (fun x W (hb:Below w w W)=>B7 S' row cr x W (hr.move (.of_below hb) P8))
 obtain ⟨bR,bQ,bX,bW,bZ,bY,k0,s1,n0,s2,p1,n1,c1,p2,n2,c2,p3,n3,c3,a0,z0,rfl,_,_,Z,_,_⟩:=Zr ht
 obtain ⟨r3,l3,r4,l4,aO,_⟩:=Z5.cells hr
 simp only [vcs] at aO
 subst aO
 unfold tcs
 have HK:=Qq Z
 obtain ⟨i0,j1,j2,j3,j4⟩:=Y3 (P:=prog) (t:=48) (z:=.agg zV) (n:=5) (b:=80) Og
 obtain ⟨HJ,bD,bE,bF⟩:=Py j1 j2 j3 j4
 clear ht hr Z j1 j2 j3 j4
 obtain ⟨n,hn⟩:=eX (t.key.length)
 rw [hn] at HK hkl |-
 have HN:=Qq hn
 clear hn
 obtain ⟨r,hr⟩:=eX (keyOf t.key row)
 rw [hr]
 have HR:=Qq hr
 clear hr
 unfold sv at HG
 go_enter func119,ntmps119
 go_wp2_with fail
 generalize aA:(w.alloc (.cells #[t.name,.slice bR t.columns.length bQ,.slice bX n bW,.slice bZ t.refs.length bY,k0,.string s1,n0,.string s2,.slice p1 n1 c1,.slice p2 n2 c2,.slice p3 n3 c3,a0,z0] 61)).alloc (.cells (Ou row r3 l3 r4 l4) 48)=W1
 have aM:=eqB aA (Zl _ _ _)
 have aK:=eqH (b:=w.heap.size+1) aA (Q1 _ _ _)
 have aZ:=Qq aM;have aE:=Qq aK
 clear aA aM aK
 go_loopw [5,13] (fun o i wr=>∃ (k:Nat) (l:List Val) (p:Option Addr) (cap:Nat),k<=n/\i=.int .i64 k/\o=.slice p k cap/\l.length=k/\Aside (keyOf (t.key.take k) row=some l)/\Below (w+2) W1 wr /\
  (∃ css,Own Zc 48 (fun b=>w+2<=b) (w+2) wr (.slice p k cap) l css)) (fun _ i _=>n - (intOf i).toNat)
 case atStart=>exact ⟨0,[],none,0,Q3 _,rfl,rfl,rfl,rfl,Qz _ _,[],Own.nil _ _ _ _ _⟩
 obtain ⟨k,l,p,cap,cG,rfl,rfl,aQ,hE,M,css,hO⟩:=hrel
 have cI:=Z3 aE.out
 have D:=kE M Oa aE.out
 have c0:=rA0 D;have bN:=rA1 D;have bO:=rA2 D;have bP:=rA3 D;have c4:=rA4 D
 have aN:Below w w wr:=aZ.out.trans (M.mono Oa)
 have cH:=M.size
 obtain ⟨bA,J,HO,HE,U⟩:=Pw M aN hO hE.out aQ
 clear D M aN hO hE aQ
 by_cases hlt:k<n
 ·have cE:(0:Int)<=(k:Int):=Oa
  have cF:(k:Int)<(n:Int):=Oa
  have V:k<t.key.length:=by rw [HN.out];exact hlt
  obtain ⟨x,hx⟩:∃ x,t.key[k]?=some x:=⟨_,Qx V⟩
  have aS:t.key.take (k+1)=t.key.take k++[x]:=by rw [Qs V];rw [Qx V] at hx;cases hx;rfl
  obtain ⟨kb,cD,rfl,bT,-⟩:=(HK.out.below J.out).str hx
  have HX:=Qq hx;have bK:=Qq aS
  clear hx aS V
  cases hg:Yn row x with
  | none=>
   have bV:r=none:=by rw [<- HR.out];exact Lc (Qy HX.out) hg
   subst bV
   have L:=Qq (HG.out x wr J.out)
   rw [hg] at L
   clear hg
   go_wp2_with (go_at_call 53;refine L.out.mono ?_;rintro e w5 ⟨bS,rfl,G,N⟩;obtain ⟨q3,m3,q4,m4,T,_⟩:=Z5.cells G;simp only [vcs,Option.getD_none,Val.zero,Val.kind,Val.n,Val.s,Val.names,Val.kids,List.length_nil] at T;subst T;have I:=Qq N;clear G N)
   go_ret
   exact ⟨none,0,0,rfl,rfl,Sl.nil _ _ _,(J.out.thn I.out).thn (Zb _ _)⟩
  | some u=>
   have L:=Qq (HG.out x wr J.out)
   rw [hg] at L
   have bC:=Qq hg
   clear hg
   go_upto_region 6 with (go_at_call 53;refine L.out.mono ?_;rintro e w5 ⟨bS,rfl,G,N⟩;obtain ⟨q3,m3,q4,m4,T,_⟩:=Z5.cells G;simp only [vcs,Option.getD_some] at T;subst T;have I:=Qq N;have bL:=Qq G;clear G N)
   generalize aB:w5.alloc (.cells (Ou u q3 m3 q4 m4) 48)=W6
   have O:=eqB aB (Zb _ _)
   have aL:=eqH (b:=w5.heap.size) aB (Qw _ _)
   obtain ⟨d0,d1,d2,d3,d4⟩:=row5 aL
   have aH:Own Zc 48 (fun b=>w+2<=b) (w+2) W6 (.slice p k cap) l css:=(HO.out.below I.out).below O
   have aJ:Zc.R (But (fun b=>w+2<=b) (.slice p k cap)) W6 (Ou u q3 m3 q4 m4) u:=by
    refine Z5.move bL.out (.of_below O) (fun b _ hb=>?_)
    have h1:wr.heap.size<=b:=hb
    refine ⟨Oa,fun e=>?_⟩
    have:=(HO.out.row.lt b e.symm).2
    omega
   have Y:Below (w+2) W1 W6:=bA.out.trans ((I.out.thn O).mono Oa)
   have cC:=O.size;have cB:=I.out.size
   obtain ⟨bI,bM,aC⟩:=Px aH aJ Y
   clear aB O aL aH aJ Y c0 bN bO bP c4 bT
   go_wp2_with (at_builtin;refine Yc (r:=Zc) Of rfl (.tmp 25) (.tmp 27) _ rfl 48 i0 (.agg zV) 80 underlying40 HJ.out bD.out bE.out bF.out rfl Oa (fun b=>w+2<=b) (w+2) W6 (.slice p k cap) l css (Ou u q3 m3 q4 m4) u rfl bI.out rfl bM.out (by simp [Value.oneCell']) k U.out Oa Oa ?_;intro p7 aF css7 w7 aI aG;have bJ:=Qq aI;have bG:=Qq aG;clear aI aG)
   go_roundw
   case measure=>simp [intOf];omega
   case rel=>
    refine ⟨k+1,l++[u],p7,aF,Oa,by go_num,rfl,by have:=U.out;simp [this],(show Aside _ from ?_),aC.out.trans bG.out.below,css7,bJ.out⟩
    have:keyOf (t.key.take (k+1)) row=some (l++[u]):=by rw [bK.out,M0,HE.out,bC.out]
    exact this
 have aP:k=n:=Oa
 subst aP
 have aR:r=some l:=by
  rw [<- HR.out,<- HE.out,Qp (by rw [HN.out];exact Q4 _)]
 have aD:=Qq aR
 clear aR
 go_wp2_with fail
 go_ret
 refine ⟨p,k,cap,rfl,by rw [aD.out];exact U.out.symm,?_,J.out⟩
 rw [aD.out]
 exact HO.out.sl (Ob U.out) (fun b hb=>Oa) (fun b _ hb=>Oa)
theorem M8 {W:World} {b:Nat} {o:Obj} (h:W.heap[b]?=some o) (o':Obj):(W.alloc o').heap[b]?=some o:=kB (Zb W o') h
theorem anew {W:World} {n:Nat} (h:W=n) (o:Obj):(W.alloc o).heap[n]?=some o:=by subst h;exact Qw _ _
theorem abal {w W:World} (h:Below w w W) (o:Obj):Below w w (W.alloc o):=h.alloc h.size o
def StartIs (l:Nat) (w:World) (e:Ending) (w':World):Prop:=∃ g m,e=.returned (.pointer (some ⟨g,0,none⟩))/\MAt g m w' l/\w.heap.size<=g/\w.heap.size<=m/\Below w w w'
theorem M5 (l:Nat) (hl:l<=1048576) (w:World):Calls prog 103 #[Ot,Ot,(l:Int)] w (StartIs l w):=by
 have M:=@run_makeMap prog
 have J:(0:Int)<=(l:Int):=Oa
 have L:(l:Int)<=1048576:=Oa
 go_enter func103,ntmps103
 go_upto_region 2 with fail
 generalize I:World.alloc (World.alloc w _) _=w2
 have D:=eqB I (Zl _ _ _)
 have G:min (l:Int) 1048576=l:=Oa
 have hg:w2.heap[w.heap.size+1]?=some (.cells #[Ot,Ot,.map (some w.heap.size),(l:Int),On] 201 (0,0)):=by rw [<- I];rw [Q1,G]
 have hm:=eqH (b:=w.heap.size) I (Q0 _ _ _)
 clear I
 obtain ⟨HG,HM,HB⟩:=Px hg hm D
 clear hg hm D
 go_wp2_with fail
 go_loop [21] (fun i=>i=.int .i64 0) (fun _=>0)
 case atStart=>rfl
 obtain rfl:=hrel
 go_wp2_with fail
 exact Q2 (v:=.pointer (some ⟨w+1,0,none⟩)) (by simp [results,results103,go_sem]) rfl ⟨w.heap.size+1,w.heap.size,rfl,⟨HG.out,HM.out,hl⟩,Oa,Q4 _,HB.out⟩
theorem edo_any (S0 S1:Nat->Prop) (g m b15 b8 b9 b10:Nat) (ms:ByteArray) (ev:Value) (cs:List Value) (e:Ex) (env:List (Bs × Val)) (l:Nat) (r:Except Int (Val × Nat)) (w:World) (hc:w.heap[b15]?=some (.cells #[Om g] 155 (0,0)))
  (h8:w.heap[b8]?=some (.cells #[.string ms] 9 (0,0))) (h9:w.heap[b9]?=some (.cells #[ev] 112 (0,0))) (h10:w.heap[b10]?=some (.cells cs.toArray 59 (0,0))) (hx:Yj S0 w cs e) (he:Sl Zs S1 w ev env) (hS0:∀ b,S0 b->b≠g) (hS1:∀ b,S1 b->b≠g) (hM:MAt g m w l) (hev:No ev e env l r):
  Calls prog 105 #[Om b15,Om b8,Om b9,Om b10] w (Fz (fun _=>False) g m w r):=by
 have HE:=Qq (fun W (hb:Below w w W)=>hev _ _ g m ms _ W (hx.move (.of_below hb) P8) (he.below hb) hS0 hS1 (hM.below hb))
 have HC:=Qq (fun v cs W (h:Z5 (fun b=>b≠g/\(S1 b\/(w.alloc (.cells zV 48)).heap.size<=b)) W cs v)=>E8 v _ cs W h)
 have aO:=hM.lt
 obtain ⟨ek,bD,en,bE,bA,aX,aU,bB,aY,aV,bC,aZ,aW,ea,ez,rfl⟩:=Yj.cells hx
 obtain ⟨p,cap,rfl,_⟩:=he.len
 have a0:=rA0 hc;have b0:=rA0 h8;have d0:=rA0 h9
 obtain ⟨c0,c1,c2,c3,c4,c5,c6,c7,c8⟩:=row9 h10
 have U:=Z3 hc;have aD:=Z3 h8;have aE:=Z3 h9;have D:=Z3 h10
 clear hx he hS0 hS1 hM hev hc h8 h9 h10
 go_enter func105,ntmps105
 go_upto_region 1 with fail
 generalize J:World.alloc w _=w1
 have L:=eqB J (Zb _ _)
 have h1:=eqH (b:=w.heap.size) J (Qw _ _)
 have bF:=L.size
 rw [J] at HC
 have G:∀ {b j:Nat} {u:Value},b<w.heap.size->w.cell? ⟨b,j,none⟩=some u->w1.cell? ⟨b,j,none⟩=some u:=fun hl hc=>kD L hl hc
 replace a0:=G U a0;replace b0:=G aD b0;replace d0:=G aE d0
 replace c0:=G D c0;replace c1:=G D c1;replace c2:=G D c2;replace c3:=G D c3;replace c4:=G D c4;replace c5:=G D c5;replace c6:=G D c6;replace c7:=G D c7;replace c8:=G D c8
 have HB:=Qq L;have H1:=Qq h1
 have M:=Z3 h1
 clear G L h1 J
 cases r with
 | error c=>
  go_wp2_with fail
  refine (HE.out _ HB.out).mono ?_
  rintro e w4 ⟨rfl,hs⟩
  exact ⟨rfl,rfl,(Z6.of_below HB.out Oa).trans hs⟩
 | ok o=>
  obtain ⟨v,k⟩:=o
  go_wp2_with fail
  refine (HE.out _ HB.out).mono ?_
  rintro e w4 ⟨aM,rfl,Y,aF,V⟩
  obtain ⟨q3,l3,q4,l4,I,_⟩:=Z5.cells Y
  simp only [vcs] at I
  subst I
  have aJ:=Qq (HC.out v _ w4 Y)
  have O:=(V.keep _ M (by show w≠g;omega)).trans H1.out
  obtain ⟨aK,N,aB⟩:=Px aF V O
  clear Y aF V O
  go_wp2_with fail
  refine aJ.out.mono ?_
  rintro e w5 ⟨aM,rfl,Z,T⟩
  obtain ⟨q3,l3,q4,l4,I,_⟩:=Z5.cells Z
  simp only [vcs] at I
  subst I
  have O:=kB T aB.out
  obtain ⟨aC,aL,aA⟩:=Px O Z T
  obtain ⟨r0,r1,r2,r3,r4⟩:=row5 O
  obtain ⟨f0,f1,f2,f3,f4⟩:=frz5 O
  clear Z T O
  go_wp2_with fail
  show bodyPost _ _ _ _ _ (Pk w5 w v q3 l3 q4 l4)
  have aG:Z6 (fun b=>b=g) g w1 w5:=N.out.trans (Z6.of_below aA.out (Ob N.out.size))
  have bG:=N.out.size
  have aT:=Z3 aB.out
  exact Q2 (v:=.agg (Ou v q3 l3 q4 l4)) (by simp [results,results105,go_sem,Z8 aC.out]) rfl ⟨_,rfl,Vn (S':=fun _=>False) Oa M (Z6.of_below HB.out Oa) (fun b h=>h.elim) (aL.out.move (.refl _ _) (fun b _ h=>⟨by have:w4.heap.size<=b:=h;omega,.inr (by have:w4.heap.size<=b:=h;omega)⟩)) (aK.out.below aA.out) aG aC.out aO⟩
def Jj (A:List Bs × List Val) (p:Bs × Val):List Bs × List Val:=(Yt A.1 (below A.1 p.1) p.1,Yt A.2 (below A.1 p.1) p.2)
def Xf (z:List (Bs × Val)):List Bs × List Val:=z.foldl Jj ([],[])
theorem N2 (z:List (Bs × Val)) (p:Bs × Val):Xf (z++[p])=Jj (Xf z) p:=by unfold Xf;rw [List.foldl_append];rfl
theorem Np {T:Type} (l:List T) (i:Nat) (x:T):(Yt l i x).length=l.length+1:=by unfold Yt;simp;omega
theorem Ev (z:List (Bs × Val)):(Xf z).1.length=z.length/\(Xf z).2.length=z.length:=by
 have:∀ (z:List (Bs × Val)) (A:List Bs × List Val),(z.foldl Jj A).1.length=A.1.length+z.length/\(z.foldl Jj A).2.length=A.2.length+z.length:=by
  intro z
  induction z with
  | nil=>intro A;exact ⟨rfl,rfl⟩
  | cons p z ih=>
   intro A
   obtain ⟨h1,h2⟩:=ih (Jj A p)
   rw [List.foldl_cons,h1,h2]
   unfold Jj
   simp only [Np,List.length_cons]
   omega
 have:=this z ([],[])
 simpa [Xf] using this
def Kb (S:Nat->Prop) (w:World) (z:List (Bs × Val)) (wx:World):Prop:=Below w w wx/\∃ p3 k3 p4 k4,z.length<=k3/\z.length<=k4 /\
 wx.heap[w.heap.size+1]?=some (.cells #[.int .i64 4,On,Oo,.slice p3 z.length k3,.slice p4 z.length k4] 48 (0,0))/\Z5 (fun b=>(S b/\b<w)\/w+2<=b) wx (vcs (Dq (Xf z).1 (Xf z).2) p3 k3 p4 k4) (Dq (Xf z).1 (Xf z).2) /\
 wx.heap[w.heap.size]?=some (.cells zV 48 (0,0))
theorem vcs_rec (z:List (Bs × Val)) (p3:Option Addr) (k3:Nat) (p4:Option Addr) (k4:Nat):vcs (Dq (Xf z).1 (Xf z).2) p3 k3 p4 k4=[.int .i64 4,.int .i64 0,.string ⟨#[]⟩,.slice p3 z.length k3,.slice p4 z.length k4]:=by
 obtain ⟨h1,h2⟩:=Ev z
 unfold Dq
 rw [M2,h1,h2]
theorem Kb.below {S:Nat->Prop} {w wr wx:World} {z:List (Bs × Val)} (h:Kb S w z wr) (hb:Below wr wr wx):Kb S w z wx:=by
 obtain ⟨h1,p3,k3,p4,k4,h2,h3,h4,h5,h6⟩:=h
 exact ⟨h1.thn hb,p3,k3,p4,k4,h2,h3,kB hb h4,h5.move (.of_below hb) P8,kB hb h6⟩
theorem Kb.next {S:Nat->Prop} {w wr w2:World} {z:List (Bs × Val)} {name:Bs} {x:Val} {p3:Option Addr} {k3:Nat} {p4:Option Addr} {k4:Nat} (h:Kb S w z wr) (hb:Below wr wr w2) (h3:(Nj (Dq (Xf z).1 (Xf z).2) name x).names.length<=k3) (h4:(Nj (Dq (Xf z).1 (Xf z).2) name x).kids.length<=k4)
  (hv:Z5 (fun b=>((fun b=>(S b/\b<w)\/w+2<=b)) b\/wr<=b) w2 (vcs (Nj (Dq (Xf z).1 (Xf z).2) name x) p3 k3 p4 k4) (Nj (Dq (Xf z).1 (Xf z).2) name x)):
  vcs (Nj (Dq (Xf z).1 (Xf z).2) name x) p3 k3 p4 k4=[.int .i64 4,.int .i64 0,.string ⟨#[]⟩,.slice p3 (z.length+1) k3,.slice p4 (z.length+1) k4] /\
  Kb S w (z++[(name,x)]) (Zn w2 (w+1) (.int .i64 4) On Oo (.slice p3 (z.length+1) k3) (.slice p4 (z.length+1) k4)):=by
 have hu:Nj (Dq (Xf z).1 (Xf z).2) name x=Dq (Xf (z++[(name,x)])).1 (Xf (z++[(name,x)])).2:=by rw [N2];rfl
 rw [hu] at h3 h4 hv |-
 have hc:=vcs_rec (z++[(name,x)]) p3 k3 p4 k4
 obtain ⟨M,N⟩:=Ev (z++[(name,x)])
 have D:(z++[(name,x)]).length=z.length+1:=Od
 refine ⟨by rw [hc,D],?_⟩
 obtain ⟨J,U,O,V,T,_,_,h7,_,h9⟩:=h
 have L:w.heap.size+1<wr.heap.size:=Z3 h7
 have G:=kE hb L h7
 have I:=kB hb h9
 refine ⟨Z7 (J.thn hb) Oa,p3,k3,p4,k4,by rw [D];have:(Xf (z++[(name,x)])).1.length<=k3:=h3;omega,by rw [D];have:(Xf (z++[(name,x)])).2.length<=k4:=h4;omega,by rw [D];exact Xm G,?_,by rw [Za Oa];exact I⟩
 refine (hv.move (S':=(fun b=>(S b/\b<w)\/w+2<=b)) (.refl _ _) (fun b _ h=>?_)).move (fun b hS _=>Za ?_) (fun b _ h=>h)
 ·rcases h with h | h
  ·exact h
  exact .inr Oa
 rcases hS with h | h <;> omega
end Go.Proofs.YtlanplhphiikjaaGreatDoor
