import Derived.Test.YtdpibdpbgokmoaaGreatDoorC04
set_option maxRecDepth 100000
set_option maxHeartbeats 400000000
namespace Go.Proofs.YtdpibdpbgokmoaaGreatDoor
open Go.RowKit Go.Shelf Go.Lib Tryz
def Srt {T:Type} (cf:T→T→Int) (xs:List T):Prop:=∀ (i j:Nat) (x y:T),i<j→xs[i]?=some x→xs[j]?=some y→0≤cf y x
def CmpOn {T:Type} (P:Program) (g:Nat) (r:Rd T) (S:Nat→Prop) (cf:T→T→Int):Prop:=
 ∀ (W:World) (x y:T) (cx cy:List Value),r.R S W cx x→r.R S W cy y→Calls P g #[cx,cy] W fun e w'=>e=.returned (.int .i64 (cf x y))∧Gr W w'
theorem Bn {α:Type} [Inhabited α] (lt:α→α→Bool) (a b:Nat) (d:Array α) (h:∀ j,a<j→j<b→lt d[j]! d[j - 1]! = false):∀ (k i:Nat),b - i≤k→a<i→Sort.insOuter lt a b i d=d:=by
 intro k
 induction k with
 | zero=>intro i hi _;exact insOuter_stop _ _ _ _ _ Qqj
 | succ k ih=>
  intro i hi ha
  by_cases hlt:i<b
  ·rw [insOuter_go _ _ _ _ _ hlt,insInner_stop _ _ _ _ (.inr (h i ha hlt))]
   exact ih (i+1) Qqj Qqj
  exact insOuter_stop _ _ _ _ _ hlt
theorem Bu {α:Type} [Inhabited α] (enc:α→List Value) (k:Nat) (w:World) (g m:Nat) (dk:Array α) (os:Array Obj) (b:Nat) (hb:b<w) (hne:b≠g):(sortWorldK enc k w g 0 m dk os).heap[b]?=w.heap[b]?:=by
 unfold sortWorldK Sort.putRowK Sort.putRow Sort.mapBlock Sort.grow Sort.ahead
 simp only
 rw [Array.getElem?_append_left (by simpa using hb),Array.getElem?_modify,if_neg (fun e=>hne e.symm)]
def El {T:Type} (r:Rd T) (S:Nat→Prop) (w:World):Type:={ p:List Value × T // r.R S w p.1 p.2 }
section
variable {P:Program} {ρ:Ren} {T:Type}
theorem Ci (L:SlLaysF0.n20 P ρ) (r:Rd T) (hk0:0<r.k) (E:TypeId) (aE:∀ w,(isAgg (ρ.t 24)).run P w=.ok true w) (zE:∀ w,(Go.sizeOf (ρ.t 24)).run P w=.ok r.k w) (h1:∀ S w cs x,r.R S w cs x→∀ u ∈ cs,u.oneCell'=true)
  (cf:T→T→Int) (g:Nat) (eg:∀ args w,(callFunc g args).run P w=.ok (.enter g args) w) (S:Nat→Prop) (B:Nat) (w:World) (q cap:Nat) (xs:List T) (css:List (List Value)) (hO:Own r E S B w (.slice (some ⟨q,0,none⟩) xs.length cap) xs css)
  (z:List Value) (zt:T) (hz:r.R (But S (.slice (some ⟨q,0,none⟩) xs.length cap)) w z zt)
  (hc:CmpOn P g r (But S (.slice (some ⟨q,0,none⟩) xs.length cap)) cf) (ho:Srt cf xs) (hl:xs.length≤1000000) (a b:Nat) (hab:a≤b) (hb:b≤xs.length):
  Calls P (ρ.f 20) #[Qqb q 0 xs.length cap,a,b,.func (.func g) #[] #[]] w fun e w'=>e=.returned (.tuple #[])∧Gr w w':=by
 haveI:Inhabited (El r (But S (.slice (some ⟨q,0,none⟩) xs.length cap)) w):=⟨⟨(z,zt),hz⟩⟩
 obtain ⟨l,N,M⟩:=Bh xs.length (fun i (e:El r (But S (.slice (some ⟨q,0,none⟩) xs.length cap)) w)=>css[i]?=some e.1.1∧xs[i]?=some e.1.2) (fun i U=>by
  have h1:=Qx (l:=css) (i:=i) (by rw [hO.cs.len];exact U)
  have O:=Qx U
  exact ⟨⟨(_,_),hO.cs.R i _ _ h1 O⟩,h1,O⟩)
 have D:l.toArray.size=xs.length:=by simpa using N
 have A:∀ i,i<xs.length→css[i]?=some (l.toArray[i]!).1.1∧xs[i]?=some (l.toArray[i]!).1.2:=by
  intro i U
  refine M i _ ?_
  rw [Qx Qqj]
  simp [N,U]
 have hq:=(hO.row.lt q rfl).2
 have hH:Sort.HoldsK (fun e:El r (But S (.slice (some ⟨q,0,none⟩) xs.length cap)) w=>e.1.1) r.k w q 0 l.toArray:=by
  intro j V
  rw [Sort.size_flatK,D] at V
  have Y:j / r.k<xs.length:=Nat.div_lt_of_lt_mul (by rwa [Nat.mul_comm])
  have hg:=A _ Y
  refine ⟨?_,by rw [Nat.zero_add];exact hO.row.frozenAt j⟩
  rw [Nat.zero_add,hO.row.cellAt j V]
  have I:j % r.k<(l.toArray[j / r.k]!).1.1.length:=by rw [r.len (l.toArray[j / r.k]!).2];exact Nat.mod_lt _ hk0
  have:=V6 hO.cs.all hg.1 (Qx I)
  rw [Nat.div_add_mod' j r.k] at this
  rw [this,Sort.get_flatK _ _ _ _ (by rw [D];exact V),getElem!_pos ((l.toArray[j / r.k]!).1.1) (j % r.k) I]
  rfl
 have J:CmpLays P g #[] (fun e:El r (But S (.slice (some ⟨q,0,none⟩) xs.length cap)) w=>e.1.1) r.k (fun x y=>cf x.1.2 y.1.2) q 0 l.toArray.size w:=by
  intro m os dk _ x y
  have hA:Ui (But S (.slice (some ⟨q,0,none⟩) xs.length cap)) w (sortWorldK (fun e:El r (But S (.slice (some ⟨q,0,none⟩) xs.length cap)) w=>e.1.1) r.k w q 0 m dk os):=fun b hb Z=>Bu _ _ _ _ _ _ _ b Z (fun e=>hb.2 (by rw [e];rfl))
  exact hc _ x.1.2 y.1.2 _ _ (r.frame x.2 hA) (r.frame y.2 hA)
 have G:=AnyQ.insertionSortCmpFunc (ρ:=ρ) L r.k aE zE (fun e:El r (But S (.slice (some ⟨q,0,none⟩) xs.length cap)) w=>e.1.1) (fun e=>r.len e.2) (fun e=>h1 _ _ _ _ e.2) (fun x y=>cf x.1.2 y.1.2) g #[] q 0 cap a b l.toArray w eg J hH hq hab (by rw [D];exact hb) (by rw [D];omega)
 rw [D] at G
 refine G.mono ?_
 rintro e w' ⟨rfl,n,os,rfl⟩
 refine ⟨rfl,?_⟩
 have hs:Sort.insertionSort (ltOf fun (x y:El r (But S (.slice (some ⟨q,0,none⟩) xs.length cap)) w)=>cf x.1.2 y.1.2) l.toArray a b=l.toArray:=by
  refine Bn _ _ _ _ (fun j aA aB=>?_) _ _ (Q9 _) Qqj
  have O:=(A j Qqj).2
  have h3:=(A (j - 1) Qqj).2
  have:=ho (j - 1) j _ _ Qqj h3 O
  simp only [ltOf,decide_eq_false_iff_not]
  omega
 rw [hs]
 unfold sortWorldK
 rw [Sort.putRowK_self _ _ _ _ _ _ (Sort.holdsK_ahead _ _ _ _ _ _ _ hH)]
 exact ⟨n,os,rfl⟩
end
theorem colZero (S:Nat→Prop) (w:World):X7.R S w [Qqe,Qqd,Qqe,Qqd,Qqf,Qqf] ⟨[],.mk 0 [] 0 [] []⟩:=
 ⟨_,rfl,Qqk,Kn (s:=[]) Qqk (Sl.nil _ _ _) (Sl.nil _ _ _)⟩
def Ks (a b:Col):Int:=Yf a.name b.name
theorem row1_on (S:Nat→Prop):CmpOn prog 78 X7 S Ks:=fun W x y cx cy hx hy=>row1_any S x y cx cy W hx hy
theorem insCol (S:Nat→Prop) (B:Nat) (w:World) (q cap:Nat) (xs:List Col) (css:List (List Value)) (hO:Own X7 64 S B w (.slice (some ⟨q,0,none⟩) xs.length cap) xs css)
  (ho:Srt Ks xs) (hl:xs.length≤1000000) (a b:Nat) (hab:a≤b) (hb:b≤xs.length):
  Calls prog 155 #[Qqb q 0 xs.length cap,a,b,.func (.func 78) #[] #[]] w fun e w'=>e=.returned (.tuple #[])∧Gr w w':=
 Ci Tryz.insCol X7 Qqx 64 isAgg64 sizeOf64 Te Ks 78 (enters_of func78 Qqy rfl) S B w q cap xs css hO _ _ (colZero _ _) (row1_on _) ho hl a b hab hb
theorem Qjt (S:Nat→Prop) (B:Nat) (w:World) (q cap:Nat) (xs:List Col) (css:List (List Value)) (hO:Own X7 64 S B w (.slice (some ⟨q,0,none⟩) xs.length cap) xs css)
  (ho:Srt Ks xs) (hl:xs.length≤19):
  Calls prog 109 #[Qqb q 0 xs.length cap,xs.length,.func (.func 78) #[] #[]] w fun e w'=>e=.returned (.tuple #[])∧Gr w w':=by
 have A:=Qq (insCol S B w q cap xs css hO ho Qqj 0 xs.length (Q8 _) (Q9 _))
 clear hO ho
 have h1:(xs.length:Int)<20:=Qqj
 generalize xs.length=n at A h1 hl ⊢
 rw [show ((0:Nat):Int)=0 from rfl] at A
 go_enter func109,ntmps109
 go_wp2_with fail
 go_loop [7,8] (fun a b=>a=.int .i64 0∧b=.int .i64 20) (fun _ _=>0)
 case atStart=>exact ⟨rfl,rfl⟩
 obtain ⟨rfl,rfl⟩:=hrel
 go_wp2_with (go_at_call 155;refine A.out.mono ?_;rintro e w' ⟨rfl,hw⟩)
 go_loopw [6] (fun s wr=>s=.int .i64 20∧Gr w wr) (fun _ _=>0)
 case atStart=>exact ⟨rfl,hw⟩
 obtain ⟨rfl,hB⟩:=hrel
 have HB:=Qq hB
 clear hB hw
 go_wp2_with fail
 go_end0
 exact ⟨rfl,HB.out⟩
theorem sortCol (S:Nat→Prop) (B:Nat) (w:World) (p:Option Addr) (cap:Nat) (xs:List Col) (css:List (List Value)) (hO:Own X7 64 S B w (.slice p xs.length cap) xs css)
  (ho:Srt Ks xs) (hl:xs.length≤19) (hne:xs≠[]):
  Calls prog 77 #[.slice p xs.length cap,.func (.func 78) #[] #[]] w fun e w'=>e=.returned (.tuple #[])∧Gr w w':=by
 have A:0<xs.length:=List.length_pos_iff.2 hne
 obtain ⟨q,D,hv,_⟩:=hO.row.form A
 simp only [Qr] at hv
 obtain ⟨rfl,-,rfl⟩:=hv
 have HI:=Qq (Qjt S B w q cap xs css hO ho hl)
 clear hO ho hne A
 generalize xs.length=n at HI hl ⊢
 go_enter func77,ntmps77
 go_wp2_with (go_at_call 109;refine HI.out.mono ?_;rintro e w' ⟨rfl,hw⟩)
 go_end0
 exact ⟨rfl,hw⟩
theorem Yv.cells {S:Nat→Prop} {w:World} {cs:List Value} {x:Ex} (h:Yv S w cs x):∃ k s1 n s2 p1 n1 c1 p2 n2 c2 p3 n3 c3 a z,cs=[.int .i64 k,.string s1,.int .i64 n,.string s2,.slice p1 n1 c1,.slice p2 n2 c2,.slice p3 n3 c3,.int .i64 a,.int .i64 z]:=by
 cases h with
 | mk k nm n s names binds kids a z nv bv p cap b off cs hm hs hn hb=>
  obtain ⟨p1,c1,rfl,_⟩:=hn.len
  obtain ⟨p2,c2,rfl,_⟩:=hb.len
  exact ⟨_,_,_,_,_,_,_,_,_,_,_,_,_,_,_,rfl⟩
def tcs (t:Tbl) (cp:Option Addr) (cc:Nat) (kp:Option Addr) (kc:Nat) (rp:Option Addr) (rc:Nat) (k:Int) (s1:ByteArray) (n:Int) (s2:ByteArray) (p1:Option Addr) (n1 c1:Nat) (p2:Option Addr) (n2 c2:Nat) (p3:Option Addr) (n3 c3:Nat) (a z:Int):List Value:=
 [t.name,.slice cp t.columns.length cc,.slice kp t.key.length kc,.slice rp t.refs.length rc,k,.string s1,n,.string s2,.slice p1 n1 c1,.slice p2 n2 c2,.slice p3 n3 c3,a,z]
def Qqh (_ : Tbl) (_ : Option Addr) (_ : Nat) (_ : Option Addr) (_ : Nat) (_ : Option Addr) (_ : Nat) (_ : Int) (_ : ByteArray) (_ : Int) (_ : ByteArray) (_ : Option Addr) (_ _ : Nat) (_ : Option Addr) (_ _ : Nat) (_ : Option Addr) (_ _ : Nat) (_ _ : Int) : Qzv := ⟨0⟩
instance Qqh_l {x : Tbl} {g : Option Addr} {h : Nat} {i : Option Addr} {j : Nat} {l : Option Addr} {m : Nat} {k : Int} {s : ByteArray} {n : Int} {t : ByteArray} {p : Option Addr} {a b : Nat} {q : Option Addr} {c d : Nat} {r : Option Addr} {e f : Nat} {y z : Int} : CoeDep Qzv (Qqh x g h i j l m k s n t p a b q c d r e f y z) (List Value) := ⟨[.string ⟨x.name.toArray⟩, .slice g x.columns.length h, .slice i x.key.length j, .slice l x.refs.length m, .int .i64 k, .string s, .int .i64 n, .string t, .slice p a b, .slice q c d, .slice r e f, .int .i64 y, .int .i64 z]⟩
instance Qqh_a {x : Tbl} {g : Option Addr} {h : Nat} {i : Option Addr} {j : Nat} {l : Option Addr} {m : Nat} {k : Int} {s : ByteArray} {n : Int} {t : ByteArray} {p : Option Addr} {a b : Nat} {q : Option Addr} {c d : Nat} {r : Option Addr} {e f : Nat} {y z : Int} : CoeDep Qzv (Qqh x g h i j l m k s n t p a b q c d r e f y z) (Array Value) := ⟨#[.string ⟨x.name.toArray⟩, .slice g x.columns.length h, .slice i x.key.length j, .slice l x.refs.length m, .int .i64 k, .string s, .int .i64 n, .string t, .slice p a b, .slice q c d, .slice r e f, .int .i64 y, .int .i64 z]⟩
theorem Yj {S:Nat→Prop} {w:World} {cs:List Value} {t:Tbl} (h:Zn.R S w cs t):∃ cp cc kp kc rp rc k s1 n s2 p1 n1 c1 p2 n2 c2 p3 n3 c3 a z,cs=tcs t cp cc kp kc rp rc k s1 n s2 p1 n1 c1 p2 n2 c2 p3 n3 c3 a z∧t.name.length≤1000000 ∧
  Sl X7 S w (.slice cp t.columns.length cc) t.columns∧Sl Zh S w (.slice kp t.key.length kc) t.key∧Sl Dd S w (.slice rp t.refs.length rc) t.refs∧Yv S w (Qqi k s1 n s2 p1 n1 c1 p2 n2 c2 p3 n3 c3 a z) t.check:=by
 obtain ⟨cv,kv,rv,ec,rfl,h1,h2,h3,h4,h5⟩:=h
 obtain ⟨cp,cc,rfl,_⟩:=h2.len
 obtain ⟨kp,kc,rfl,_⟩:=h3.len
 obtain ⟨rp,rc,rfl,_⟩:=h4.len
 obtain ⟨k,s1,n,s2,p1,n1,c1,p2,n2,c2,p3,n3,c3,a,z,rfl⟩:=h5.cells
 exact ⟨cp,cc,kp,kc,rp,rc,k,s1,n,s2,p1,n1,c1,p2,n2,c2,p3,n3,c3,a,z,rfl,h1,h2,h3,h4,h5⟩
def Mv (t:Tbl):Ty:=.mk 5 [] 0 (t.columns.map Col.name) (t.columns.map Col.type)
def RowIs (w:World) (t:Tbl) (e:Ending) (w':World):Prop:=∃ cs',e=.returned (.agg cs'.toArray)∧Xf (fun _=>True) w' cs' (Mv t)∧Below w w w'
structure RowMid (w:World) (G:Nat) (cp:Option Addr) (ccap:Nat) (xs:List Col) (k:Nat) (np:Option Addr) (ncap:Nat) (kp:Option Addr) (kcap:Nat) (wr:World):Prop where
 below:Below w w wr
 hG:w+2≤G
 box:wr.heap[G]?=some (.cells #[.int .i64 5,Qqe,Qqd,.slice np k ncap,.slice kp k kcap] 56 (0,0))
 res:wr.heap[w.heap.size+1]?=some (.cells zY 56 (0,0))
 names:∃ ncs,Own Zh 9 (fun b=>b<G∧b≠w+1) (G+1) wr (.slice np k ncap) ((xs.take k).map Col.name) ncs
 kids:∃ kcs,Own J6 56 (fun b=>b<G∧b≠w+1) (G+1) wr (.slice kp k kcap) ((xs.take k).map Col.type) kcs
 cols:Sl X7 (fun b=>b<G∧b≠w+1) wr (.slice cp xs.length ccap) xs
theorem row_any (S0:Nat→Prop) (t:Tbl) (cs:List Value) (w:World) (h0:Zn.R S0 w cs t) (ho:Srt Ks t.columns) (hl:t.columns.length≤19) (hne:t.columns≠[]):
  Calls prog 27 #[cs] w (RowIs w t):=by
 have h:Zn.R (fun b=>b<w) w cs t:=Zn.mono h0 (fun b hb _=>hb)
 obtain ⟨fD,fC,fO,fN,fQ,fP,k0,s1,n0,s2,p1,n1,c1,p2,n2,c2,p3,n3,c3,a0,z0,rfl,bT,aL,_,_,_⟩:=Yj h
 unfold tcs
 obtain ⟨HC,HO,dO⟩:=Qqo aL ho hne
 obtain ⟨i9,j1,j2,j3,j4⟩:=Y9 (P:=prog) (t:=9) (z:=.string ⟨#[]⟩) (n:=1) (b:=16) Qqy
 obtain ⟨eL,l1,l2,l3,l4⟩:=Y9 (P:=prog) (t:=56) (z:=.agg zY) (n:=5) (b:=80) Qqy
 obtain ⟨HJ,dF,dG,dH,HL,dK,dL,dM⟩:=Qqu j1 j2 j3 j4 l1 l2 l3 l4
 clear h h0 aL ho hne j1 j2 j3 j4 l1 l2 l3 l4
 go_enter func27,ntmps27
 go_wp2_with fail
 refine (P9 _ _ t.columns _ (HC.out.below (Zt _ _ _))).mono ?_
 rintro e w1 ⟨cp,aE,dX,rfl,cN,aS⟩
 have aM:=(aS.block (w+1) Qqk).trans (Q6 _ _ _)
 obtain ⟨dP,dA,bZ⟩:=Qqo aM ((Zt w _ _).thn aS) cN
 have eY:w.heap.size+2≤w1.heap.size:=by have:=aS.size;simpa using this
 clear aM aS cN
 go_wp2_with fail
 refine (sortCol _ _ _ cp aE t.columns dX bZ.out HO.out hl dO.out).mono ?_
 rintro e w2 ⟨rfl,bQ⟩
 have bI:=Qq bQ.bl
 have bA:w.heap.size+2≤w2.heap.size:=Qqq bQ.bl.size
 clear bQ
 go_wp2_with fail
 obtain ⟨W3,aR⟩:=eX (w2.alloc (.cells #[.int .i64 5,Qqe,Qqd,Qqf,Qqf] 56))
 rw [aR]
 have cI:RowMid w w2 cp aE t.columns 0 none 0 none 0 W3:=by
  have bO:=eqB aR (Zg _ _)
  refine ⟨dA.out.thn (bI.out.thn bO),bA,by rw [← aR];exact Qw _ _,?_,⟨[],Own.nil _ _ _ _ _⟩,⟨[],Own.nil _ _ _ _ _⟩,?_⟩
  ·rw [bO.block _ Qqj,bI.out.block _ Qqj];exact dP.out
  refine (((bZ.out.sl Qqj (S':=fun b=>b≠w+1) (fun b hb=>?_) (fun b _ hb=>?_)).below bI.out).mono (S':=fun b=>b<w2∧b≠w+1) (fun b hb h=>⟨hb,h⟩)).below bO
  ·have h2:w.heap.size+2≤b:=by simpa using hb
   omega
  have h2:b<w.heap.size:=hb
  omega
 have bY:=Qq cI
 clear cI aR
 obtain ⟨n,hn⟩:=eX (t.columns.length)
 rw [hn] at hl ⊢
 have HN:=Qq hn
 clear hn
 generalize hG:w2.heap.size=G at bY bA ⊢
 clear hG
 go_loopw [15] (fun i wr=>∃ (k:Nat) (np:Option Addr) (I:Nat) (kp:Option Addr) (A:Nat),k≤n∧i=.int .i64 k∧RowMid w G cp aE t.columns k np I kp A wr) (fun i _=>n - (intOf i).toNat)
 case atStart=>exact ⟨0,none,0,none,0,Q8 _,rfl,bY.out⟩
 obtain ⟨k,np,I,kp,A,fM,rfl,U⟩:=hrel
 have O:=Qq U
 have fr:=fun j=>Qn _ _ j _ _ U.box
 have c0:=rA0 U.box;have dS:=rA1 U.box;have dT:=rA2 U.box;have dV:=rA3 U.box;have c4:=rA4 U.box
 have cH:=Z8 U.box
 by_cases bS:k<n
 ·have fK:(0:Int)≤(k:Int):=Qqj
  have fL:(k:Int)<(n:Int):=Qqj
  obtain ⟨x,hx⟩:∃ x,t.columns[k]?=some x:=⟨_,Qx (by rw [HN.out];exact bS)⟩
  obtain ⟨cb,eV,cc,rfl,fJ,eW,-,eI,V⟩:=U.cols.elem hx
  obtain ⟨tc,eE,eK,bU⟩:=eI
  obtain ⟨m1,m2,m3,m4,m5,m6,m7,m8,m9,rfl⟩:=bU.cells
  subst eE
  have d0:=V 0 _ rfl;have d1:=V 1 _ rfl;have d2:=V 2 _ rfl;have d3:=V 3 _ rfl;have d4:=V 4 _ rfl;have d5:=V 5 _ rfl
  simp only [show X7.k=6 from rfl,Nat.add_zero] at d0 d1 d2 d3 d4 d5
  unfold sv at d0
  have HX:=Qq hx;have dQ:=Qq bU
  clear hx V bU c0 dS dT dV c4 fr U
  go_upto_region 7 with fail
  obtain ⟨W4,aI⟩:=eX (wr.alloc (.cells #[x.name,m1,.string m2,m3,.slice m4 m5 m6,.slice m7 m8 m9] 64))
  rw [aI]
  have aJ:=eqB aI (Zg _ _)
  have bB:W4=wr.heap.size+1:=by rw [← aI];simp
  have bN:=eqH (b:=wr.heap.size) aI (Qw _ _)
  obtain ⟨cO,aH⟩:=O.out.names
  obtain ⟨eN,aG⟩:=O.out.kids
  have bT:((t.columns.take k).map Col.name).length=k:=by rw [Z7,Qm,HN.out];omega
  have cL:((t.columns.take k).map Col.type).length=k:=by rw [Z7,Qm,HN.out];omega
  have aF:=(aJ.block G cH).trans O.out.box
  have c3:=Qk _ _ 3 _ _ _ aF;have c4:=Qk _ _ 4 _ _ _ aF;have f3:=fA 3 aF
  have q0:=Qk _ _ 0 _ _ _ bN
  simp only [Qf,Qg,Qh] at c3 c4 q0
  have aW:=aH.below aJ
  have aU:=aG.below aJ
  obtain ⟨cE,dR,dB,T,cC,eZ,dN,dJ⟩:=Qqu aJ bN aF bB aW aU bT cL
  clear aI aJ bN aF aH aG aW aU bT cL d0 d1 d2 d3 d4 d5 bB
  go_upto_region 8 with (at_builtin;refine Yl (r:=Zh) Qqx rfl (.tmp 20) (.tmp 23) _ rfl 9 i9 (.string ⟨#[]⟩) 16 underlying33 HJ.out dF.out dG.out dH.out rfl Qqj (fun b=>b<G∧b≠w+1) (G+1) W4 (.slice np k I) ((t.columns.take k).map Col.name) cO [x.name] x.name rfl cC.out rfl ⟨rfl,eK⟩ (by simp [Value.oneCell']) k dN.out Qqj (Qqq T.out) ?_;intro p5 M aT w5 cJ bL;have cA:=Qq cJ;have aN:=Qq bL;have aO:=(bL.other G (Qqq T.out) (fun e=>by have:=(cC.out.row.lt G e.symm).1;omega)).trans dB.out;have eA:=fA 3 aO;have dW:=rA3 aO;have dC:=Qq aO;clear cJ bL aO)
  obtain ⟨W6,Z⟩:=eX (w5.setCell ⟨G,3,none⟩ (.slice p5 (k+1) M))
  rw [Z]
  have Y:∀ b,b≠G→W6.heap[b]?=w5.heap[b]?:=by intro b hb;rw [← Z];exact Za hb
  have bD:W6.heap.size=w5.heap.size:=by rw [← Z];simp [World.setCell]
  have aP:W6.heap[G]?=some (.cells #[.int .i64 5,Qqe,Qqd,.slice p5 (k+1) M,.slice kp k A] 56 (0,0)):=by rw [← Z,Qi _ _ _ _ _ _ dC.out];rfl
  have aZ:∀ g,(Value.slice np k I).ownBlock=some g→wr.heap.size≠g:=fun g hg e=>by
   obtain ⟨_,h⟩:=O.out.names
   have:=(h.row.lt g hg).2
   omega
  have aA:W6.heap[wr.heap.size]?=some (.cells #[x.name,m1,.string m2,m3,.slice m4 m5 m6,.slice m7 m8 m9] 64 (0,0)):=by
   rw [Y _ Qqj,aN.out.other _ (Qqq T.out) (fun e=>aZ _ e.symm rfl)];exact dR.out
  have keep:∀ b,b<wr.heap.size→some b≠(Value.slice np k I).ownBlock→b≠G→W6.heap[b]?=wr.heap[b]?:=fun b hb hne bP=>by
   rw [Y b bP,aN.out.other b (Qqq T.out) hne];exact cE.out.block b hb
  obtain ⟨_,D⟩:=O.out.names
  obtain ⟨bF,N⟩:=O.out.kids
  have aV:Own J6 56 (fun b=>b<G∧b≠w+1) (G+1) W6 (.slice kp k A) ((t.columns.take k).map Col.type) bF:=N.move (Q9 _) (fun b hb h=>by
   rcases h with h | h
   ·exact keep b hb (fun e=>by have:=(D.row.lt b e.symm).1;omega) Qqj
   exact keep b hb (fun e=>Ym N.row D.row Qqx h e.symm) (by have:=(N.row.lt b h).1;omega))
  have aX:Own Zh 9 (fun b=>b<G∧b≠w+1) (G+1) W6 (.slice p5 (k+1) M) ((t.columns.take k).map Col.name++[x.name]) aT:=cA.out.move (Q9 _) (fun b _ h=>Y b (by
   rcases h with h | h
   ·omega
   have:=(cA.out.row.lt b h).1;omega))
  have aY:J6.R (But (fun b=>b<G∧b≠w+1) (.slice kp k A)) W6 [m1,.string m2,m3,.slice m4 m5 m6,.slice m7 m8 m9] x.type:=by
   refine Xf.move dQ.out (fun b hb bS=>keep b bS (fun e=>by have:=(D.row.lt b e.symm).1;omega) Qqj) (fun b _ hb=>⟨hb,fun e=>?_⟩)
   have:=(N.row.lt b e.symm).1
   omega
  have bC:=aN.out.size
  have g4:=Qk _ _ 4 _ _ _ aP;have eB:=fA 4 aP
  have y1:=Qk _ _ 1 _ _ _ aA;have y2:=Qk _ _ 2 _ _ _ aA;have y3:=Qk _ _ 3 _ _ _ aA;have y4:=Qk _ _ 4 _ _ _ aA;have y5:=Qk _ _ 5 _ _ _ aA
  simp only [Qf,Qg,Qh] at g4 y1 y2 y3 y4 y5
  obtain ⟨dI,J,aC,cD,dD,bK,bJ⟩:=Qqt keep aV aX aY aP bD bC
  have aK:Below w w W6:=O.out.below.trans (by
   have h1:=cE.out.mono O.out.below.size
   have h2:=(aN.out.below.mono (show w≤G+1 by omega))
   have h3:=(h1.trans h2).setCell (p:=⟨G,3,none⟩) (show w≤G by omega) (.slice p5 (k+1) M)
   rwa [Z] at h3)
  have bH:=Qq aK
  clear Z Y bD aP aZ aA keep D N aV aX aY bC c3 c4 f3 q0 eA dW aK
  go_wp2_with (at_builtin;refine Yl (r:=J6) Qqx rfl (.tmp 27) (.tmp 30) _ rfl 56 eL (.agg zY) 80 underlying54 HL.out dK.out dL.out dM.out rfl Qqj (fun b=>b<G∧b≠w+1) (G+1) W6 (.slice kp k A) ((t.columns.take k).map Col.type) bF [m1,.string m2,m3,.slice m4 m5 m6,.slice m7 m8 m9] x.type rfl J.out rfl cD.out (by simp [Value.oneCell']) k dJ.out Qqj (by have:=bK.out;have:=bJ.out;have:=T.out;omega) ?_;intro p7 aD cF w7 cK bM;have cB:=Qq cK;have bX:=Qq bM;have aQ:=(bM.other G (by have:=bK.out;have:=bJ.out;have:=T.out;omega) (fun e=>by have:=(J.out.row.lt G e.symm).1;omega)).trans dD.out;have fE:=fA 4 aQ;have fB:=rA4 aQ;have dE:=Qq aQ;clear cK bM aQ)
  go_roundw
  case measure=>simp [intOf];omega
  case rel=>
   have eH:(t.columns.take (k+1)).map Col.name=(t.columns.take k).map Col.name++[x.name]:=by
    obtain ⟨bR,rfl⟩:=Qj HX.out
    rw [Zz bR,List.map_append];rfl
   have eG:(t.columns.take (k+1)).map Col.type=(t.columns.take k).map Col.type++[x.type]:=by
    obtain ⟨bR,rfl⟩:=Qj HX.out
    rw [Zz bR,List.map_append];rfl
   have cG:=O.out.hG
   obtain ⟨_,D⟩:=O.out.names
   have e6:=bK.out
   have e5:=bJ.out
   have e4:=T.out
   have k7:∀ b,b<W6.heap.size→some b≠(Value.slice kp k A).ownBlock→b≠G→(w7.setCell ⟨G,4,none⟩ (.slice p7 (k+1) aD)).heap[b]?=W6.heap[b]?:=fun b hb hne bP=>by
    rw [Za bP,bX.out.other b hb hne]
   have bE:∀ b,b<G→(w7.setCell ⟨G,4,none⟩ (.slice p7 (k+1) aD)).heap[b]?=wr.heap[b]?:=fun b hb=>by
    rw [k7 b Qqj (fun e=>by have:=(J.out.row.lt b e.symm).1;omega) Qqj,dI.out b Qqj (fun e=>by have:=(D.row.lt b e.symm).1;omega) Qqj]
   refine ⟨k+1,p5,M,p7,aD,Qqj,by go_num,⟨(bH.out.trans (bX.out.below.mono Qqj)).setCell (p:=⟨G,4,none⟩) (show w≤G by omega) _,cG,?_,?_,⟨aT,?_⟩,⟨cF,?_⟩,?_⟩⟩
   ·rw [Qi _ _ _ _ _ _ dE.out];rfl
   ·rw [bE _ Qqj];exact O.out.res
   ·rw [eH]
    refine aC.out.move (Q9 _) (fun b hb h=>?_)
    rcases h with h | h
    ·have h':b<G:=h.1
     exact k7 b hb (fun e=>by have:=(J.out.row.lt b e.symm).1;omega) Qqj
    have h':=(aC.out.row.lt b h).1
    exact k7 b hb (fun e=>Ym aC.out.row J.out.row Qqx h e.symm) Qqj
   ·rw [eG]
    refine cB.out.move (Q9 _) (fun b _ h=>Za ?_)
    rcases h with h | h
    ·have h':b<G:=h.1
     show b≠G
     omega
    have h':=(cB.out.row.lt b h).1
    show b≠G
    omega
   exact O.out.cols.frame (fun b hb _=>bE b hb.1)
 have cM:k=n:=Qqj
 subst cM
 have r0:=Qk _ _ 0 _ _ _ U.res
 have fz:=fun j=>Qn _ _ j _ _ U.res
 have rr:=fun j=>Qk _ _ j _ _ _ U.res
 obtain ⟨fF,fG,fH,fI,eB⟩:=Qzj fz
 obtain ⟨eP,eQ,eR,eS,eT⟩:=Qzj rr
 simp only [Qf,Qg,Qh] at eP eQ eR eS eT
 have cG:=U.hG
 clear fr fz rr U r0
 go_wp2_with fail
 show bodyPost _ _ _ _ _ (Zl wr _ _ _ _ _ _)
 refine Q7 (v:=.agg #[.int .i64 5,Qqe,Qqd,.slice np k I,.slice kp k A]) (by simp [results,results27,go_sem,Zd O.out.res]) rfl ⟨_,rfl,?_,Zc O.out.below Qqj⟩
 obtain ⟨cO,aH⟩:=O.out.names
 obtain ⟨eN,aG⟩:=O.out.kids
 rw [Zj (Qqq HN.out)] at aH aG
 refine Kn (s:=[]) Qqk ?_ ?_
 ·refine ((aH.sl (by rw [Z7];have:=HN.out;omega) (S':=fun b=>b≠w+1) (fun b hb=>?_) (fun b _ hb=>hb.2)).frame (fun b hb _=>Zf hb)).mono (fun _ _ _=>trivial)
  omega
 refine ((aG.sl (by rw [Z7];have:=HN.out;omega) (S':=fun b=>b≠w+1) (fun b hb=>?_) (fun b _ hb=>hb.2)).frame (fun b hb _=>Zf hb)).mono (fun _ _ _=>trivial)
 omega
theorem S6 (c lo hi:Int) (w:World):Calls prog 233 #[.int .u8 c,.int .u8 lo,.int .u8 hi] w fun e w'=>e=.returned (.bool (decide (lo≤c)&&decide (c≤hi)))∧w=w':=by
 go_enter func233,ntmps233
 go_wp2
 all_goals (go_ret;exact ⟨by simp [*] <;> omega,rfl⟩)
theorem M8 (a b:UInt8):decide (a≤b)=decide ((a.toNat:Int)≤(b.toNat:Int)):=by
 simp [UInt8.le_iff_toNat_le]
theorem O2 (c:UInt8):Ml c=(decide ((48:Int)≤(c.toNat:Int))&&decide ((c.toNat:Int)≤57)):=by
 unfold Ml;rw [M8,M8];rfl
theorem Gb (c:UInt8):F5 c=(decide ((97:Int)≤(c.toNat:Int))&&decide ((c.toNat:Int)≤122)):=by
 unfold F5;rw [M8,M8];rfl
theorem Eo (c:UInt8):Hs c=(decide ((65:Int)≤(c.toNat:Int))&&decide ((c.toNat:Int)≤90)):=by
 unfold Hs;rw [M8,M8];rfl
theorem Lr (c:UInt8) (w:World):Calls prog 222 #[.int .u8 c.toNat] w fun e w'=>e=.returned (.bool (Ml c))∧w=w':=by
 rw [O2]
 go_enter func222,ntmps222
 go_wp2_with (go_at_call 233;refine (S6 _ _ _ _).mono ?_;rintro e w' ⟨rfl,rfl⟩)
 go_ret
 exact ⟨rfl,rfl⟩
theorem Dl (c:UInt8) (w:World):Calls prog 217 #[.int .u8 c.toNat] w fun e w'=>e=.returned (.bool (F5 c))∧w=w':=by
 rw [Gb]
 go_enter func217,ntmps217
 go_wp2_with (go_at_call 233;refine (S6 _ _ _ _).mono ?_;rintro e w' ⟨rfl,rfl⟩)
 go_ret
 exact ⟨rfl,rfl⟩
theorem Lf (c:UInt8) (w:World):Calls prog 220 #[.int .u8 c.toNat] w fun e w'=>e=.returned (.bool (Hs c))∧w=w':=by
 rw [Eo]
 go_enter func220,ntmps220
 go_wp2_with (go_at_call 233;refine (S6 _ _ _ _).mono ?_;rintro e w' ⟨rfl,rfl⟩)
 go_ret
 exact ⟨rfl,rfl⟩
theorem Mq (a b:UInt8):(a==b)=((a.toNat:Int)==(b.toNat:Int)):=by
 rw [Bool.eq_iff_iff,beq_iff_eq,beq_iff_eq,← UInt8.toNat_inj];omega
theorem Gz (c:UInt8):Ot c=((c.toNat:Int)==9||(c.toNat:Int)==10||(c.toNat:Int)==13||(c.toNat:Int)==32):=by
 unfold Ot;rw [Mq,Mq,Mq,Mq];rfl
theorem Mw (c:UInt8) (w:World):Calls prog 216 #[.int .u8 c.toNat] w fun e w'=>e=.returned (.bool (Ot c))∧w=w':=by
 rw [Gz]
 go_enter func216,ntmps216
 go_wp2
 all_goals (go_ret;exact ⟨by simp [*],rfl⟩)
theorem Pa (c:UInt8) (w:World):Calls prog 218 #[.int .u8 c.toNat] w fun e w'=>e=.returned (.bool (Fy c))∧w=w':=by
 have h:Fy c=(F5 c||Ml c||((c.toNat:Int)==95)):=by unfold Fy;rw [Mq];rfl
 rw [h]
 go_enter func218,ntmps218
 go_wp2_with (first | (go_at_call 217;refine (Dl _ _).mono ?_;rintro e w' ⟨rfl,rfl⟩) | (go_at_call 222;refine (Lr _ _).mono ?_;rintro e w' ⟨rfl,rfl⟩))
 all_goals (go_ret;exact ⟨by simp [*],rfl⟩)
theorem Og (c:UInt8) (w:World):Calls prog 221 #[.int .u8 c.toNat] w fun e w'=>e=.returned (.bool (Br c))∧w=w':=by
 unfold Br
 go_enter func221,ntmps221
 go_wp2_with (first | (go_at_call 217;refine (Dl _ _).mono ?_;rintro e w' ⟨rfl,rfl⟩) | (go_at_call 222;refine (Lr _ _).mono ?_;rintro e w' ⟨rfl,rfl⟩) | (go_at_call 220;refine (Lf _ _).mono ?_;rintro e w' ⟨rfl,rfl⟩))
 all_goals (go_ret;exact ⟨by simp [*],rfl⟩)
def svs (ls:List Bs):List Value:=ls.map sv
def Xl (w:World):Prop:=w.rangeAt 5 0 (svs kws)
theorem Be (l:Bs):bl ⟨l.toArray⟩=l:=rfl
theorem Pt (s:ByteArray) (n:Nat) (h:n<s.size):(bl s)[n]?=some s[n]:=by
 simp only [bl,Array.getElem?_toList]
 exact Array.getElem?_eq_getElem h
theorem bl_len (s:ByteArray):(bl s).length=s.size:=Array.length_toList
theorem Wy {p:UInt8→Bool} {s:ByteArray} {n:Nat} (hn:n≤tk p (bl s)) (h:n<s.size) (hp:p s[n]=true):n+1≤tk p (bl s):=by
 rcases Nat.lt_or_ge n (tk p (bl s)) with h' | h'
 ·omega
 have e:tk p (bl s)=n:=Qqj
 have:=Td (p:=p) (l:=bl s) (c:=s[n]) (by rw [e];exact Pt s n h)
 rw [hp] at this;cases this
theorem tk_end {p:UInt8→Bool} {s:ByteArray} {n:Nat} (hn:n≤tk p (bl s)) (h:n<s.size) (hp:p s[n]=false):tk p (bl s)=n:=by
 rcases Nat.lt_or_ge n (tk p (bl s)) with h' | h'
 ·have:=N5 h' (Pt s n h);rw [hp] at this;cases this
 omega
theorem tk_out {p:UInt8→Bool} {s:ByteArray} {n:Nat} (hn:n≤tk p (bl s)) (h:¬ n<s.size):tk p (bl s)=n:=by
 have:=tk_le p (bl s);rw [bl_len] at this;omega
theorem Ki {k:IntKind} {a b:Int} (h:a=b):Ending.returned (.int k a)=.returned (.int k b):=by rw [h]
theorem run_word (s:ByteArray) (w:World) (hs:s.size≤maxLen):
  Calls prog 203 #[.string s,.func (.func 218) #[] #[]] w fun e w'=>e=.returned (.int .i64 (tk Fy (bl s)))∧w=w':=by
 unfold maxLen at hs
 go_enter func203,ntmps203
 go_wp2
 go_loop [5] (fun i=>∃ k:Nat,k≤tk Fy (bl s)∧i=.int .i64 k) (fun i=>s.size - (intOf i).toNat)
 case atStart=>exact ⟨0,Q8 _,rfl⟩
 obtain ⟨n,hn,rfl⟩:=hrel
 have D:=Qq hn;clear hn
 by_cases hlt:n<s.size
 ·by_cases hp:Fy s[n]=true
  ·have A:=Qq (Wy D.out hlt hp)
   go_wp2_with (go_at_call 218;refine (Pa _ _).mono ?_;rintro e w' ⟨rfl,rfl⟩)
   go_round
   case rel=>exact ⟨n+1,A.out,by go_num⟩
   case measure=>simp [intOf];omega
  have G:Fy s[n]=false:=by simpa using hp
  have A:=Qq (tk_end D.out hlt G);clear hp
  go_wp2_with (go_at_call 218;refine (Pa _ _).mono ?_;rintro e w' ⟨rfl,rfl⟩)
  go_ret
  exact ⟨Ki (by rw [A.out]),rfl⟩
 have A:=Qq (tk_out D.out hlt)
 go_wp2
 go_ret
 exact ⟨Ki (by rw [A.out]),rfl⟩
theorem run_name (s:ByteArray) (w:World) (hs:s.size≤maxLen):
  Calls prog 203 #[.string s,.func (.func 221) #[] #[]] w fun e w'=>e=.returned (.int .i64 (tk Br (bl s)))∧w=w':=by
 unfold maxLen at hs
 go_enter func203,ntmps203
 go_wp2
 go_loop [5] (fun i=>∃ k:Nat,k≤tk Br (bl s)∧i=.int .i64 k) (fun i=>s.size - (intOf i).toNat)
 case atStart=>exact ⟨0,Q8 _,rfl⟩
 obtain ⟨n,hn,rfl⟩:=hrel
 have D:=Qq hn;clear hn
 by_cases hlt:n<s.size
 ·by_cases hp:Br s[n]=true
  ·have A:=Qq (Wy D.out hlt hp)
   go_wp2_with (go_at_call 221;refine (Og _ _).mono ?_;rintro e w' ⟨rfl,rfl⟩)
   go_round
   case rel=>exact ⟨n+1,A.out,by go_num⟩
   case measure=>simp [intOf];omega
  have G:Br s[n]=false:=by simpa using hp
  have A:=Qq (tk_end D.out hlt G);clear hp
  go_wp2_with (go_at_call 221;refine (Og _ _).mono ?_;rintro e w' ⟨rfl,rfl⟩)
  go_ret
  exact ⟨Ki (by rw [A.out]),rfl⟩
 have A:=Qq (tk_out D.out hlt)
 go_wp2
 go_ret
 exact ⟨Ki (by rw [A.out]),rfl⟩
theorem F6 (f g:Nat→Bool):∀ (n lo hi:Nat),(∀ t,t<hi→f t=g t)→Lib.bsGo f n lo hi=Lib.bsGo g n lo hi
 | 0,_,_,_=>rfl
 | n+1,lo,hi,h=>by
  unfold Lib.bsGo
  by_cases hl:lo<hi
  ·rw [if_pos hl,if_pos hl,h ((lo+hi) / 2) Qqj,F6 f g n _ hi h,F6 f g n lo _ (fun t ht=>h t Qqj)]
  rw [if_neg hl,if_neg hl]
theorem J1:∀ (x y:List UInt8),Op.bytesLess x y=decide (x<y)
 | [],[]=>by simp [Op.bytesLess]
 | _::_,[]=>by simp [Op.bytesLess]
 | [],_::_=>by simp [Op.bytesLess]
 | a::x,b::y=>by
  rw [Op.bytesLess,J1 x y]
  simp only [List.cons_lt_cons_iff]
  by_cases h1:a<b <;> by_cases h2:a=b <;> by_cases h3:x<y <;> simp [h1,h2,h3]
theorem split_at (f:Nat→Bool) (n:Nat) (hd:∀ i j,i<j→j<n→f j=true→f i=true):∃ k,k≤n∧(∀ t,t<k→f t=true)∧(∀ t,k≤t→t<n→f t=false):=by
 induction n with
 | zero=>exact ⟨0,Q9 _,fun t h=>Qqj,fun t _ h=>Qqj⟩
 | succ n ih=>
  obtain ⟨k,h1,h2,h3⟩:=ih (fun i j A hj=>hd i j A Qqj)
  cases hn:f n with
  | true=>exact ⟨n+1,Q9 _,fun t ht=>by
    by_cases e:t=n
    ·rw [e];exact hn
    exact hd t n Qqj Qqj hn,fun t _ _=>Qqj⟩
  | false=>exact ⟨k,Qqj,h2,fun t ht D=>by
    by_cases e:t=n
    ·rw [e];exact hn
    exact h3 t ht Qqj⟩
theorem bs_ok (S:Nat→Bs) (n:Nat) (x:Bs) (hs:∀ i j,i<j→j<n→S i<S j) (k:Nat) (hk:Lib.bsGo (fun t=>Op.bytesLess (S t) x) n 0 n=k):
  (k<n∧S k=x)↔∃ t,t<n∧S t=x:=by
 obtain ⟨k0,h1,h2,h3⟩:=split_at (fun t=>Op.bytesLess (S t) x) n (fun i j D hj h=>by
  simp only [J1,decide_eq_true_eq] at h ⊢
  exact List.lt_trans (hs i j D hj) h)
 have e:Lib.bsGo (fun t=>Op.bytesLess (S t) x) n 0 n=k0:=by
  rw [F6 _ (fun t=>decide (t<n)&&Op.bytesLess (S t) x) n 0 n (fun t A=>by simp [A])]
  exact Lib.bsGo_spec _ k0 (fun t A=>by simp [show t<n by omega,h2 t A]) (fun t A=>by
   by_cases htn:t<n
   ·simp [h3 t A htn]
   simp [htn]) n 0 n Qqj Qqj h1
 rw [hk] at e;subst e
 constructor
 ·rintro ⟨a,b⟩;exact ⟨k,a,b⟩
 rintro ⟨t,A,rfl⟩
 have G:k=t:=by
  rcases Nat.lt_trichotomy k t with h | h | h
  ·have:=h3 k (Q9 _) Qqj
   simp only [J1,decide_eq_false_iff_not] at this
   exact absurd (hs k t h A) this
  ·exact h
  have:=h2 t h
  simp only [J1,decide_eq_true_eq] at this
  exact absurd this (List.lt_irrefl _)
 subst G;exact ⟨A,rfl⟩
theorem Ss:∀ i j,i<j→j<26→kws.getD i []<kws.getD j []:=by
 have:∀ j,j<26→∀ i,i<j→kws.getD i []<kws.getD j []:=Qqx
 exact fun i j h1 h2=>this j h2 i h1
theorem isKw_iff (x:Bs):Bo x=true↔∃ t,t<26∧kws.getD t []=x:=by
 have hl:kws.length=26:=rfl
 unfold Bo
 rw [List.contains_iff_mem]
 constructor
 ·intro h
  obtain ⟨j,hj,e⟩:=List.getElem_of_mem h
  exact ⟨j,Qqj,by rw [Qs,Qx hj];exact e⟩
 rintro ⟨t,ht,e⟩
 rw [Qs,Qx Qqj] at e
 rw [← e];exact Qd _
theorem ba_ext {a b:ByteArray}:a=b↔bl a=bl b:=by
 constructor
 ·rintro rfl;rfl
 intro h
 apply ByteArray.ext
 exact Array.toList_inj.1 h
theorem Cm (s:ByteArray) (w:World) (hT:Xl w) (c:Nat):
  Calls prog 168 #[Qqb 5 0 26 c,.string s] w fun e w'=>(∃ n:Int,e=.returned (.tuple #[n,.bool (Bo (bl s))]))∧∃ q,w'=w.drewN q:=by
 refine (Any2.slices_BinarySearch_string Tryz.laysBS 5 0 26 c (fun t=>⟨(kws.getD t []).toArray⟩) s w Qqj (fun j hj=>?_)).mono ?_
 ·have hl:kws.length=26:=rfl
  refine hT j _ ?_
  simp only [svs,List.getElem?_map,Qx (show j<kws.length by omega),Option.map_some,Qs,Option.getD_some]
  rfl
 rintro e w' ⟨rfl,hq⟩
 refine ⟨⟨((Lib.bsGo (fun t=>Op.bytesLess (ByteArray.toList ⟨(kws.getD t []).toArray⟩) s.toList) 26 0 26:Nat):Int),?_⟩,hq⟩
 simp only [ByteArray.toList_mk]
 rw [Lib.toList_data]
 have:=bs_ok (fun t=>kws.getD t []) 26 (bl s) Ss _ rfl
 congr 6
 rw [Bool.eq_iff_iff,decide_eq_true_iff,isKw_iff,← this]
 simp only [ba_ext,Be]
theorem L1 (s:ByteArray) (w:World) (hT:Xl w):
  Calls prog 219 #[.string s] w fun e w'=>e=.returned (.bool (Bo (bl s)))∧∃ q,w'=w.drewN q:=by
 have HK:=Qq (fun c=>Cm s w hT c)
 go_enter func219,ntmps219
 go_wp2_with (go_at_call 168;refine (HK.out _).mono ?_;rintro e w' ⟨⟨n,rfl⟩,q,rfl⟩)
 go_ret
 exact ⟨rfl,_,rfl⟩
structure Va (x:Bs):Prop where
 pos:0<x.length
 len:x.length≤16
 head:∀ c,x[0]?=some c→F5 c=true
 all:tk Fy x=x.length
 kw:Bo x=false
structure B0 (x:Bs):Prop where
 pos:0<x.length
 len:x.length≤16
 head:∀ c,x[0]?=some c→Hs c=true
 all:tk Br x=x.length
theorem lo_not (c:UInt8) (h:F5 c=true):Ot c=false∧((c.toNat:Int)==35)=false:=by
 rw [Gb] at h
 simp only [Bool.and_eq_true,decide_eq_true_eq] at h
 rw [Gz]
 constructor
 ·simp;omega
 simp;omega
theorem up_not (c:UInt8) (h:Hs c=true):Ot c=false∧((c.toNat:Int)==35)=false∧F5 c=false:=by
 rw [Eo] at h
 simp only [Bool.and_eq_true,decide_eq_true_eq] at h
 rw [Gz,Gb]
 refine ⟨?_,?_,?_⟩
 ·simp;omega
 ·simp;omega
 simp;omega
theorem V0 (x:Bs):(⟨x.toArray⟩:ByteArray).size=x.length:=by
 show x.toArray.size=_
 simp
theorem Ge (x:Bs) (i:Nat) (h:i<(⟨x.toArray⟩:ByteArray).size):x[i]?=some ((⟨x.toArray⟩:ByteArray)[i]'h):=by
 have:=Pt ⟨x.toArray⟩ i h
 rwa [Be] at this
theorem Bl (x:Bs):(⟨x.toArray⟩:ByteArray).extract 0 x.length=⟨x.toArray⟩:=by
 rw [ba_ext]
 simp [bl,ByteArray.data_extract]
theorem At (x:Bs) (h:Va x) (w:World) (hT:Xl w):
  Calls prog 202 #[sv x] w fun e w'=>e=.returned (.tuple #[.int .i64 2,x.length])∧Below w w w':=by
 obtain ⟨hp,hl,hh,ha,hk⟩:=h
 have J:0<(⟨x.toArray⟩:ByteArray).size:=by rw [V0];exact hp
 have D:=hh _ (Ge x 0 J)
 obtain ⟨c,hc⟩:=eX ((⟨x.toArray⟩:ByteArray)[0]'J)
 rw [hc] at D
 obtain ⟨n1,n2⟩:=lo_not c D
 have hR:∀ w,Calls prog 203 #[x,.func (.func 218) #[] #[]] w fun e w'=>e=.returned (.int .i64 (x.length:Nat))∧w=w':=fun w=>by
  have:=run_word ⟨x.toArray⟩ w (by rw [V0];unfold maxLen;omega)
  rwa [Be,ha] at this
 have hK:∀ w,Xl w→Calls prog 219 #[.string ((⟨x.toArray⟩:ByteArray).extract 0 x.length)] w fun e w'=>e=.returned (.bool false)∧∃ q,w'=w.drewN q:=fun w hT=>by
  have:=L1 ⟨x.toArray⟩ w hT
  rwa [Be,hk,← Bl x] at this
 obtain ⟨I,G,HT⟩:=Qqo hR hK hT
 have hs:(⟨x.toArray⟩:ByteArray).size=x.length:=V0 x
 have A:x.length≤(⟨x.toArray⟩:ByteArray).size:=Qqj
 unfold sv
 generalize (⟨x.toArray⟩:ByteArray)=s at J hc A I G ⊢
 generalize x.length=n at I G A hl ⊢
 clear hR hK hT ha hk hh hs hp
 go_enter func202,ntmps202
 go_wp2_with (first | (go_at_call 203;refine (I.out _).mono ?_;rintro e w' ⟨rfl,rfl⟩) | (go_at_call 219;refine (G.out _ HT.out).mono ?_;rintro e w' ⟨rfl,q,rfl⟩) | (go_at_call 216;refine (Mw _ _).mono ?_;rintro e w' ⟨rfl,rfl⟩) | (go_at_call 217;refine (Dl _ _).mono ?_;rintro e w' ⟨rfl,rfl⟩))
 go_ret2
 exact ⟨rfl,Yq _ _⟩
theorem good_cap (x:Bs) (h:B0 x) (w:World):
  Calls prog 202 #[sv x] w fun e w'=>e=.returned (.tuple #[.int .i64 3,x.length])∧Below w w w':=by
 obtain ⟨hp,hl,hh,ha⟩:=h
 have G:0<(⟨x.toArray⟩:ByteArray).size:=by rw [V0];exact hp
 have A:=hh _ (Ge x 0 G)
 obtain ⟨c,hc⟩:=eX ((⟨x.toArray⟩:ByteArray)[0]'G)
 rw [hc] at A
 obtain ⟨n1,n2,n3⟩:=up_not c A
 have hR:∀ w,Calls prog 203 #[x,.func (.func 221) #[] #[]] w fun e w'=>e=.returned (.int .i64 (x.length:Nat))∧w=w':=fun w=>by
  have:=run_name ⟨x.toArray⟩ w (by rw [V0];unfold maxLen;omega)
  rwa [Be,ha] at this
 have D:=Qq hR
 unfold sv
 generalize (⟨x.toArray⟩:ByteArray)=s at G hc D ⊢
 generalize x.length=n at D hl ⊢
 clear hR ha hh hp
 go_enter func202,ntmps202
 go_wp2_with (first | (go_at_call 203;refine (D.out _).mono ?_;rintro e w' ⟨rfl,rfl⟩) | (go_at_call 220;refine (Lf _ _).mono ?_;rintro e w' ⟨rfl,rfl⟩) | (go_at_call 216;refine (Mw _ _).mono ?_;rintro e w' ⟨rfl,rfl⟩) | (go_at_call 217;refine (Dl _ _).mono ?_;rintro e w' ⟨rfl,rfl⟩))
 go_ret2
 exact ⟨rfl,Qz _ _⟩
def Ri (x:Bs) (k:Int) (w:World):Prop:=∀ W,Below w w W→Calls prog 202 #[sv x] W fun e w'=>e=.returned (.tuple #[k,x.length])∧Below W W w'
theorem next_at (x:Bs) (k:Int) (w:World) (hg:Ri x k w) (hp:0<x.length) (W:World) (hW:Below w w W):
  Calls prog 190 #[sv x] W fun e w'=>e=.returned (.tuple #[k,x.length])∧Below W W w':=by
 have A:=Qq (hg W hW)
 have D:(0:Int)<x.length:=Qqj
 clear hg hW
 unfold sv at A ⊢
 generalize x.length=n at A hp D ⊢
 go_enter func190,ntmps190
 go_wp2_with (go_at_call 202;refine A.out.mono ?_;rintro e w' ⟨rfl,hw⟩)
 go_ret2
 exact ⟨rfl,hw⟩
theorem Ws (x:Bs) (k:Int) (w:World) (hg:Ri x k w) (hp:0<x.length) (W:World) (hW:Below w w W):
  Calls prog 177 #[sv x] W fun e w'=>e=.returned (.tuple #[k,.bool true])∧Below W W w':=by
 have A:=Qq (next_at x k w hg hp W hW)
 have h0:0<(⟨x.toArray⟩:ByteArray).size:=by rw [V0];exact hp
 have D:(⟨x.toArray⟩:ByteArray).toList.isEmpty=false:=by
  rw [Lib.toList_data]
  show (bl ⟨x.toArray⟩).isEmpty=false
  rw [Be]
  cases x with
  | nil=>simp at hp
  | cons=>rfl
 have hs:((x.length:Int)==((⟨x.toArray⟩:ByteArray).size:Int))=true:=by rw [V0];simp
 clear hg hW h0
 unfold sv at A ⊢
 generalize (⟨x.toArray⟩:ByteArray)=s at A D hs ⊢
 generalize x.length=n at A hs ⊢
 go_enter func177,ntmps177
 go_wp2_with (go_at_call 190;refine A.out.mono ?_;rintro e w' ⟨rfl,hw⟩)
 go_ret2
 exact ⟨rfl,hw⟩
theorem Tn (x:Bs) (k at':Int) (w:World) (hk:k=2∨k=3) (hg:Ri x k w) (hp:0<x.length) (hl:x.length≤16):
  Calls prog 158 #[.agg #[k,sv x,at']] w fun e w'=>e=.returned (.bool true)∧Below w w w':=by
 have D:=Qq (fun W h=>Ws x k w hg hp W h)
 have G:((⟨x.toArray⟩:ByteArray).size:Int)≤16:=by rw [V0];omega
 clear hg
 unfold sv at D ⊢
 generalize (⟨x.toArray⟩:ByteArray)=s at D G ⊢
 rcases hk with rfl | rfl
 all_goals
  go_enter func158,ntmps158
  go_wp2_with fail
  refine (D.out _ (Zg _ _)).mono ?_
  rintro e w1 ⟨rfl,A⟩
  have c0:=(A.cell (p:=⟨w,0,none⟩) Qqk).trans (Qk _ _ 0 _ _ _ (Qw w _))
  have c1:=(A.cell (p:=⟨w,1,none⟩) Qqk).trans (Qk _ _ 1 _ _ _ (Qw w _))
  simp only [Qf,Qg,Qh] at c0 c1
  have HW:=Qq ((Zg w _).thn A)
  clear A
  go_wp2_with fail
  go_ret
  exact ⟨rfl,HW.out⟩
theorem Xl.below {w w':World} (h:Xl w) (hb:Below w w w'):Xl w':=fun j v hv=>(hb.cell (p:=⟨_,0+j,none⟩) (Qv w _ (h j v hv))).trans (h j v hv)
theorem H7 (x:Bs) (h:Va x) (w:World) (hT:Xl w):Calls prog 112 #[sv x] w fun e w'=>e=.returned (.bool true)∧Below w w w':=by
 have A:=Qq (fun W (hb:Below w w W)=>Tn x 2 0 W (.inl rfl) (fun W' h'=>At x h W' ((hT.below hb).below h')) h.pos h.len)
 clear hT h
 unfold sv at A ⊢
 generalize (⟨x.toArray⟩:ByteArray)=s at A ⊢
 go_enter func112,ntmps112
 go_wp2_with (go_at_call 158;refine (A.out _ (Qz _ _)).mono ?_;rintro e w' ⟨rfl,hw⟩)
 go_ret
 exact ⟨rfl,hw⟩
theorem We (x:Bs) (h:B0 x) (w:World):Calls prog 111 #[sv x] w fun e w'=>e=.returned (.bool true)∧Below w w w':=by
 have A:=Qq (fun W=>Tn x 3 0 W (.inr rfl) (fun W' _=>good_cap x h W') h.pos h.len)
 clear h
 unfold sv at A ⊢
 generalize (⟨x.toArray⟩:ByteArray)=s at A ⊢
 go_enter func111,ntmps111
 go_wp2_with (go_at_call 158;refine (A.out _).mono ?_;rintro e w' ⟨rfl,hw⟩)
 go_ret
 exact ⟨rfl,hw⟩
end Go.Proofs.YtdpibdpbgokmoaaGreatDoor
