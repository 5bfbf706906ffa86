import Derived.Test.YtdpibdpbgokmoaaGreatDoorC11
set_option maxRecDepth 100000
set_option maxHeartbeats 400000000
namespace Go.Proofs.YtdpibdpbgokmoaaGreatDoor
open Go.RowKit Go.Shelf Go.Lib Tryz
inductive Xv (S:Nat→Prop) (w:World):Value→List (Bs × Val)→Prop
 | nil:Xv S w (.pointer none) []
 | cons (b:Nat) (outer:Option Addr) (x:Bs) (v:Val) (p3:Option Addr) (k3:Nat) (p4:Option Addr) (k4:Nat) (env:List (Bs × Val)) (hS:S b) (h0:w.heap[b]?=some (.cells #[.pointer outer,x,v.kind,v.n,v.s,.slice p3 v.names.length k3,.slice p4 v.kids.length k4] 124 (0,0)))
   (hx:x.length≤1000000) (hv:Z9 S w (vcs v p3 k3 p4 k4) v) (ho:Xv S w (.pointer outer) env):Xv S w (.pointer (some ⟨b,0,none⟩)) ((x,v)::env)
theorem Xv.move {S S':Nat→Prop} {w w':World} {p:Value} {env:List (Bs × Val)} (h:Xv S w p env) (hA:Ui S w w') (hS:∀ b,b<w.heap.size→S b→S' b):Xv S' w' p env:=by
 induction h with
 | nil=>exact .nil
 | cons b outer x v p3 k3 p4 k4 env hSb h0 hx hv ho ih=>exact .cons b outer x v p3 k3 p4 k4 env (hS b (Z8 h0) hSb) ((hA b hSb (Z8 h0)).trans h0) hx (hv.move hA hS) ih
theorem Xv.ptr {S:Nat→Prop} {w:World} {p:Value} {env:List (Bs × Val)} (h:Xv S w p env):∃ q,p=.pointer q:=by cases h <;> exact ⟨_,rfl⟩
theorem Zo (w:World) (A B C:Obj):(((w.alloc A).alloc B).alloc C).heap[w.heap.size+1]?=some B:=
 ((Zg ((w.alloc A).alloc B) C).block (w+1) Qqk).trans (Q6 w A B)
theorem Zp (w:World) (A B C:Obj):(((w.alloc A).alloc B).alloc C).heap[w.heap.size]?=some A:=
 ((Zg ((w.alloc A).alloc B) C).block w (by simp;omega)).trans (Q5 w A B)
def EvV (e:Ex) (env:List (Bs × Val)) (v:Val):Prop:=∀ (S S':Nat→Prop) (cs:List Value) (p:Value) (w:World),Yv S' w cs e→Xv S w p env→Calls prog 91 #[cs,p] w (G6 S w v)
theorem Tu (nm:Bs) (n:Int) (s:Bs) (names binds:List Bs) (kids:List Ex) (a z:Int) (env:List (Bs × Val)):EvV (.mk 2 nm n s names binds kids a z) env (Xr (n==1)):=by
 intro S S' cs p w hx he
 obtain ⟨nv,bv,kv,rfl,_,_,hn,hb,hk⟩:=Yx.1 hx
 obtain ⟨np,nc,rfl,_⟩:=hn.len
 obtain ⟨bp,bc,rfl,_⟩:=hb.len
 obtain ⟨kp,kc,rfl,_⟩:=hk.len
 obtain ⟨q,rfl⟩:=he.ptr
 have HB:=Qq (Uv (n==1) (fun b=>S b∧b<w))
 clear hx he hn hb hk
 unfold sv
 go_enter func91,ntmps91
 obtain ⟨v,hv⟩:=eX (Xr (n==1))
 rw [hv] at HB ⊢
 clear hv
 go_wp2_with fail
 refine (HB.out _).mono ?_
 rintro e w1 ⟨N,rfl,G,D⟩
 obtain ⟨q3,l3,q4,l4,I,_⟩:=Z9.cells G
 simp only [vcs] at I
 subst I
 have A:=Qq ((D.block (w+1+1) Qqk).trans (Zi w _ _ _))
 have J:=Qq ((Xm w _ _ _).thn D);have M:=Qq G
 have fz:=fun j=>Qn _ _ j _ _ A.out
 obtain ⟨f0,f1,f2,f3,f4⟩:=Qzj fz
 have rr:=fun j=>Qk _ _ j _ _ _ A.out
 obtain ⟨r0,r1,r2,r3,r4⟩:=Qzj rr
 simp only [Qf,Qg,Qh] at r0 r1 r2 r3 r4
 clear fz rr G D
 go_wp2_with fail
 show bodyPost _ _ _ _ _ (Qqm w1 (w+1+1) v q3 l3 q4 l4)
 refine Q7 (v:=.agg (Qqg v q3 l3 q4 l4)) (by simp [results,results91,go_sem,Zd A.out]) rfl ⟨_,rfl,?_,Zc J.out Qqj⟩
 exact Z9.move M.out (fun b hb _=>Zf (by have:=hb.2;omega)) (fun _ _ h=>h.1)
theorem Sw (nm:Bs) (n:Int) (s:Bs) (names binds:List Bs) (kids:List Ex) (a z:Int) (env:List (Bs × Val)) (v:Val) (hlk:Hi nm env=some v):EvV (.mk 3 nm n s names binds kids a z) env v:=by
 intro S0 S' cs p w hx T
 have he:Xv (fun b=>S0 b∧b<w) w p env:=T.move (.refl _ _) (fun b hb h=>⟨h,hb⟩)
 obtain ⟨nv,bv,kv,rfl,_,_,hn,hb,hk⟩:=Yx.1 hx
 obtain ⟨np,nc,rfl,_⟩:=hn.len
 obtain ⟨bp,bc,rfl,_⟩:=hb.len
 obtain ⟨kp,kc,rfl,_⟩:=hk.len
 obtain ⟨q,rfl⟩:=he.ptr
 have HE:=Qq he;have aB:=Qq hlk
 clear hx he T hn hb hk hlk
 unfold sv
 go_enter func91,ntmps91
 go_upto_region 3 with fail
 generalize G:((w.alloc _).alloc _).alloc _=w3
 have J:=eqB G (Xm _ _ _ _)
 have h0:=eqH (b:=w.heap.size) G (Zp _ _ _ _)
 have h1:=eqH (b:=w.heap.size+1) G (Zo _ _ _ _)
 have h2:=eqH (b:=w.heap.size+1+1) G (Zi _ _ _ _)
 have c0:=rA0 h0;have d0:=rA0 h1
 obtain ⟨H0,H2,Y,Z⟩:=Qqp h0 h2 J (HE.out.move (.of_below J) Qzx)
 clear h0 h1 h2 J G HE
 go_wp2_with fail
 go_loopg [7] env.length (fun k p wr=>∃ A,k=A.length∧Xv (fun b=>S0 b∧b<w) wr p A∧Aside (Hi nm A=some v)∧Below w3 w3 wr)
 case atStart=>exact ⟨env,rfl,Z.out,aB.out,Qz _ _⟩
 obtain ⟨A,rfl,hE,V,D⟩:=hrel
 cases hE with
 | nil=>cases V.out
 | cons b outer x u p3 k3 p4 k4 rest hS hb0 hxl hu ho=>
  have c1:=rA1 ((kB D H0.out));have x0:=rA0 hb0;have x1:=rA1 hb0;have x2:=rA2 hb0;have x3:=rA3 hb0;have x4:=rA4 hb0;have x5:=rA5 hb0;have x6:=rA6 hb0
  have O:=kB D H2.out
  obtain ⟨HR,HU,HO,M,aG⟩:=Qqr O hu ho D hS
  have I:=V.out
  by_cases hxn:x=nm
  ·have U:u=v:=by
    have h:(if x=nm then some u else Hi nm rest)=some v:=I
    rw [if_pos hxn] at h;exact Qb h
   have aD:=Qq U
   subst hxn
   have fz:=fun j=>Qn _ _ j _ _ O
   obtain ⟨f0,f1,f2,f3,f4⟩:=Qzj fz
   have rr:=fun j=>Qk _ _ j _ _ _ O
   obtain ⟨r0,r1,r2,r3,r4⟩:=Qzj rr
   simp only [Qf,Qg,Qh] at r0 r1 r2 r3 r4
   clear V I D O hu ho hb0 fz rr U hS
   go_wp2_with fail
   go_quiet (fail)
   go_wp2_with fail
   have aC:=Qq (kB (Yq wr nq) HR.out)
   show bodyPost _ _ _ _ _ (Qqm (wr.drewN nq) (w+1+1) u p3 k3 p4 k4)
   refine Q7 (v:=.agg (Qqg u p3 k3 p4 k4)) (by simp [results,results91,go_sem,Zd aC.out]) rfl ⟨_,rfl,?_,Zc ((Y.out.thn M.out).thn (Yq wr nq)) Qqj⟩
   rw [← aD.out]
   exact Z9.move HU.out (fun b hb _=>Zf (by have:=hb.2;omega)) (fun _ _ h=>h.1)
  have N:Hi nm rest=some v:=by
   have h:(if x=nm then some u else Hi nm rest)=some v:=I
   rw [if_neg hxn] at h;exact h
  have aA:=Qq N
  have hq:(x==nm)=false:=by simpa using hxn
  clear V I N D O hu ho hb0 hxn hS
  go_wp2_with fail
  go_quiet (fail)
  go_wp2_with fail
  go_roundg rest.length
  case measure=>simp
  case rel=>exact ⟨rest,rfl,HO.out.move (.of_below (Yq wr nq)) Qzx,aA.out,M.out.thn (Yq wr nq)⟩
def U6 (n m:Int):Int:=(if n<0 then -(n+1) else n) % m
theorem Pj (n m:Int) (hm:0<m):0≤U6 n m∧U6 n m<m:=by
 unfold U6;exact ⟨Int.emod_nonneg _ Qqj,Int.emod_lt_of_pos _ hm⟩
theorem ret_intE {k:IntKind} {a b:Int} (h:a=b):Ending.returned (.int k a)=.returned (.int k b):=by rw [h]
theorem Rq (n m:Int) (w:World) (hn1:-9223372036854775808≤n) (hn2:n≤9223372036854775807) (hm:1≤m) (hm2:m≤9223372036854775807):
  Calls prog 13 #[n,m] w fun e w'=>e=.returned (.int .i64 (U6 n m))∧w=w':=by
 have hz:(m==0)=false:=by simpa using (by omega:¬ m=0)
 by_cases h:n<0
 ·have A:U6 n m=(-(n+1)) % m:=by unfold U6;rw [if_pos h]
  rw [A]
  clear A
  have h1:0≤-(n+1):=Qqj
  go_enter func13,ntmps13
  go_wp2
  go_ret
  exact ⟨ret_intE (by rw [← Int.neg_tmod,Int.tmod_eq_emod_of_nonneg h1]),rfl⟩
 have A:U6 n m=n % m:=by unfold U6;rw [if_neg h]
 rw [A]
 clear A
 go_enter func13,ntmps13
 go_wp2
 go_ret
 exact ⟨rfl,rfl⟩
def Yp (l:List Int) (i:Nat) (m:Int):Int:=match l[i]? with
 | some n=>U6 n m
 | none=>0
def Ub (l:List Int):Prop:=∀ n ∈ l,-9223372036854775808≤n∧n≤9223372036854775807
def Hj (w:World) (x:Val) (e:Ending) (w':World):Prop:=∃ cs,e=.returned (.agg cs.toArray)∧Z9 (fun b=>w≤b) w' cs x∧Below w w w'
theorem Y4 {T:Type} {r:Rd T} {S:Nat→Prop} {w:World} {b n:Nat} {E:TypeId} {cells:Array Value} {xs:List T} {css:List (List Value)} (hb:w.heap[b]?=some (.cells cells E (0,0))) (hS:S b) (hcs:Cs r S w css xs) (hc:css.flatten=cells.toList) (hn:n=xs.length) (hl:xs.length≤1000000):Sl r S w (.slice (some ⟨b,0,none⟩) n n) xs:=by
 subst hn
 refine Sl.of_css hl hcs hS (Array.getElem?_eq_some_iff.1 hb).1 (fun j u hu=>?_)
 rw [Nat.zero_add,Qk _ _ _ _ _ _ hb]
 rw [hc] at hu
 simpa using hu
theorem By (S:Nat→Prop) (w:World) (n:Int):Z9 S w [Qqd,n,Qqe,Qqf,Qqf] (Y5 n):=Y8 (s:=[]) Qqk (Sl.nil _ _ _) (Sl.nil _ _ _)
theorem Oa (S:Nat→Prop) (w:World) (a b:Bs) (ha:a.length≤1000000) (hb:b.length≤1000000):Cs Zh S w [[.string ⟨a.toArray⟩],[b]] [a,b]:=
 (Cs.one (r:=Zh) (x:=a) (show Zh.R S w [a] a from ⟨rfl,ha⟩)).app (Cs.one (r:=Zh) (x:=b) (show Zh.R S w [b] b from ⟨rfl,hb⟩))
theorem Gv (a b:Bs) (x y:Int) (w:World) (ha:a.length≤1000000) (hb:b.length≤1000000):
  Calls prog 47 #[sv a,x,sv b,y] w (Hj w (V8 [a,b] [Y5 x,Y5 y])):=by
 unfold sv
 go_enter func47,ntmps47
 go_wp2_with fail
 generalize A:((w.alloc _).alloc _).alloc _=W
 have h0:=eqH (b:=w.heap.size) A (Zp _ _ _ _)
 have h1:=eqH (b:=w.heap.size+1) A (Zo _ _ _ _)
 have h2:=eqH (b:=w.heap.size+1+1) A (Zi _ _ _ _)
 have D:=eqB A (Xm _ _ _ _)
 refine Q7 (v:=.agg #[.int .i64 4,Qqd,Qqe,Qqb (w+1) 0 2 2,Qqb (w+1+1) 0 2 2]) (by simp [results,results47,go_sem,Qk _ _ _ _ _ _ h0]) rfl ⟨_,rfl,?_,D⟩
 refine Y8 (s:=[]) Qqk ?_ ?_
 ·exact Y4 h1 (by show w≤w.heap.size+1;omega) (Oa _ _ a b ha hb) rfl rfl Qqk
 exact Y4 h2 (by show w≤w.heap.size+1+1;omega) ((Cs.one (r:=Ze) (By _ W x)).app (Cs.one (r:=Ze) (By _ W y))) rfl rfl Qqk
def EvO (e:Ex) (env:List (Bs × Val)) (r:Option Val):Prop:=∀ (S S':Nat→Prop) (cs:List Value) (p:Value) (w:World),(∀ b,w.heap.size≤b→S b)→Xl w→Yv S' w cs e→Xv S w p env→Calls prog 91 #[cs,p] w (Xy S w r)
theorem EvV.out {e:Ex} {env:List (Bs × Val)} {v:Val} (h:EvV e env v):EvO e env (some v):=fun S S' cs p w _ _=>h S S' cs p w
theorem Kl (E V k:Nat) (S0 S':Nat→Prop) (kp:Option Addr) (kc:Nat) (kids:List Ex) (e:Ex) (p:Value) (env:List (Bs × Val)) (r:Option Val) (w:World) (h6:w.cell? ⟨E,6,none⟩=some (.slice kp kids.length kc)) (hk:Sl Xp S' w (.slice kp kids.length kc) kids) (hV:w.cell? ⟨V,0,none⟩=some p)
  (hSn:∀ b,w.heap.size≤b→S0 b) (hkw:Xl w) (he0:Xv S0 w p env) (hx:kids[k]?=some e) (hev:EvO e env r):Calls prog 132 #[k,Qqc E,Qqc V] w (Xy S0 w r):=by
 obtain ⟨q,rfl⟩:=he0.ptr
 obtain ⟨xb,aN,cs,aJ,aM,_,_,hr,D⟩:=hk.elem hx
 subst aJ
 have he:Xv (fun b=>S0 b∧b≠w.heap.size) w (.pointer q) env:=he0.move (.refl _ _) (fun b hb h=>⟨h,Qqj⟩)
 have T:=Qq (fun W (hb:Below w w W) (hlt:w<W.heap.size)=>hev (fun b=>S0 b∧b≠w.heap.size) S' cs (.pointer q) W (fun b bA=>⟨hSn b Qqj,Qqj⟩) (hkw.below hb) (Xp.frame hr (.of_below hb)) (he.move (.of_below hb) Qzx))
 obtain ⟨ek,aY,en,aZ,aV,aS,aP,aW,aT,aQ,aX,aU,aR,ea,ez,I⟩:=Yv.cells (show Yv S' w cs e from hr)
 subst I
 have bD:k<kids.length:=(Qj hx).1
 have bB:(0:Int)≤(k:Int):=Qqj
 have bC:(k:Int)<(kids.length:Int):=Qqj
 have d0:=D 0 _ rfl
 have d1:=D 1 _ rfl
 have d2:=D 2 _ rfl
 have d3:=D 3 _ rfl
 have d4:=D 4 _ rfl
 have d5:=D 5 _ rfl
 have d6:=D 6 _ rfl
 have d7:=D 7 _ rfl
 have d8:=D 8 _ rfl
 simp only [show Xp.k=9 from rfl,Nat.add_zero] at d0 d1 d2 d3 d4 d5 d6 d7 d8
 go_enter func132,ntmps132
 go_upto_region 1 with fail
 generalize N:w.alloc _=Y
 have O:=eqB N (Zg _ _)
 have U:=eqH (b:=w.heap.size) N (Qw _ _)
 have G:∀ {b j:Nat} {u:Value},w.cell? ⟨b,j,none⟩=some u→Y.cell? ⟨b,j,none⟩=some u:=fun D=>kC O D
 replace h6:=G h6
 replace hV:=G hV
 replace d0:=G d0
 replace d1:=G d1
 replace d2:=G d2
 replace d3:=G d3
 replace d4:=G d4
 replace d5:=G d5
 replace d6:=G d6
 replace d7:=G d7
 replace d8:=G d8
 clear N G hk D he0 he hx hev hr aM hSn hkw
 go_still_tail 6,Qqy
 change wpList _ _ _ _ _ Y.drew
 have A:=Qq (show Below w w Y.drew from O.drew);have Z:=Qq (show Y.drew.heap[w.heap.size]?=_ from U)
 generalize Y.drew=w2' at A Z
 clear h6 hV d0 d1 d2 d3 d4 d5 d6 d7 d8 O U
 cases r with
 | none=>
  go_wp2_with (go_at_call 91;refine (T.out _ A.out (Z8 Z.out)).mono ?_;rintro e w2 ⟨rfl,hb⟩;have J:=Qq hb;clear hb)
  exact ⟨rfl,rfl,A.out.thn J.out⟩
 | some v=>
  go_wp2_with (go_at_call 91;refine (T.out _ A.out (Z8 Z.out)).mono ?_;rintro e w2 ⟨aO,rfl,hv,hb⟩;obtain ⟨q3,l3,q4,l4,I,_⟩:=Z9.cells hv;simp only [vcs] at I;subst I;obtain ⟨HV,J,M⟩:=Qqo hv (A.out.thn hb) (kB hb Z.out);have fz:=fun j=>Qn _ _ j _ _ M.out;obtain ⟨f0,f1,f2,f3,f4⟩:=Qzj fz;have rr:=fun j=>Qk _ _ j _ _ _ M.out;obtain ⟨r0,r1,r2,r3,r4⟩:=Qzj rr;simp only [Qf,Qg,Qh] at r0 r1 r2 r3 r4;clear fz rr hv hb)
  show bodyPost _ _ _ _ _ (Qqm w2 w v q3 l3 q4 l4)
  refine Q7 (v:=.agg (Qqg v q3 l3 q4 l4)) (by simp [results,results132,go_sem,Zd M.out]) rfl ⟨_,rfl,?_,Zc J.out (Q9 _)⟩
  exact Z9.move HV.out (fun b hb _=>Zf (by have:=hb.2;omega)) (fun _ _ h=>h.1)
theorem B6 (nm:Bs) (n:Int) (s:Bs) (names binds:List Bs) (kids:List Ex) (a z:Int) (env:List (Bs × Val)) (r:Option Val)
  (hop:∀ (lb:Array Value) (S0:Nat→Prop) (W:World),(∀ b,S0 b→b≠W.heap.size)→(∀ (k:Nat) (e:Ex) (t:Option Val),kids[k]?=some e→EvO e env t→∀ W',Below W W W'→W<W'.heap.size→Calls prog 132 (#[.int .i64 k]++lb) W' (Xy S0 W' t)) →
   Calls prog 140 #[nm,.func (.func 132) #[] lb,kids.length] W (Xy S0 W r)):EvO (.mk 14 nm n s names binds kids a z) env r:=by
 intro S0 S' cs p w aN aC aB aA
 have aH:=Qq aC
 clear aC
 have he:Xv (fun b=>S0 b∧b<w.heap.size) w p env:=aA.move (.refl _ _) (fun b hb h=>⟨h,hb⟩)
 obtain ⟨nv,bv,kv,rfl,aT,aU,hn,hb,hk⟩:=Yx.1 aB
 obtain ⟨np,nc,rfl,_⟩:=hn.len
 obtain ⟨bp,bc,rfl,_⟩:=hb.len
 obtain ⟨kp,kc,rfl,aQ⟩:=hk.len
 obtain ⟨q,rfl⟩:=he.ptr
 obtain ⟨HE,HK,aJ,aF⟩:=Qqp he hk hn hb
 obtain ⟨kl,A⟩:=eX (kids.length)
 rw [A] at HK aQ
 have N:=Qq A
 clear aB he aA hn hb hk
 unfold sv
 rw [A]
 clear A
 go_enter func91,ntmps91
 go_upto_region 3 with fail
 generalize G:((w.alloc _).alloc _).alloc _=V
 have D:=eqB G (Xm _ _ _ _)
 have J:=eqH (b:=w.heap.size) G (Zp _ _ _ _)
 have h1:=eqH (b:=w.heap.size+1) G (Zo _ _ _ _)
 have h2:=eqH (b:=w.heap.size+1+1) G (Zi _ _ _ _)
 have aV:w.heap.size+1+1<V.heap.size:=Z8 h2
 have c0:=rA0 J;have c1:=rA1 J;have c2:=rA2 J;have c3:=rA3 J;have c4:=rA4 J;have c5:=rA5 J;have c6:=rA6 J
 obtain ⟨H0,H1,H2,Y⟩:=Qqp J h1 h2 D
 have M:=Qq (fun (k:Nat) e9 r9 (T:kids[k]?=some e9) (O:EvO e9 env r9) W (hbw:Below V V W) (x9:Nat) (hxl:w≤x9) (hxW:x9<W)=>Kl w (w+1) k (fun b=>S0 b∧b≠w.heap.size+1+1∧b≠x9) S' kp kc kids e9 (.pointer q) env r9 W
  (by rw [N.out];exact (Qk _ _ 6 _ _ _ (kB hbw J)).trans rfl) (by rw [N.out];exact (HK.out.below D).below hbw) ((Qk _ _ 0 _ _ _ (kB hbw h1)).trans rfl) (fun b hb=>⟨aN b (Qqz D.size hbw.size),by have:=hbw.size;omega,Qqj⟩) (aH.out.below (D.thn hbw)) ((HE.out.move (.of_below D) Qzx).move (.of_below hbw) (fun b _ h=>⟨h.1,by have:=h.2;omega,by have:=h.2;omega⟩)) T O)
 have HL:=Qq (hop #[Qqc w,Qqc (w+1)] (fun b=>S0 b∧b≠w.heap.size+1+1∧b≠V.heap.size) V (fun b hb=>hb.2.2) (fun k e t T O W' hW aR=>M.out k e t T O W' hW V Qqj aR))
 rw [N.out] at HL
 clear J h1 h2 D G HE HK M hop c2 c3 c4 c5 aJ aF
 cases r with
 | none=>
  go_wp2_with fail
  refine HL.out.mono ?_
  rintro e w4 ⟨rfl,I⟩
  exact ⟨rfl,rfl,Y.out.thn I⟩
 | some r=>
  go_wp2_with fail
  refine HL.out.mono ?_
  rintro e w4 ⟨cr,rfl,U,I⟩
  obtain ⟨q3,l3,q4,l4,Z,_⟩:=Z9.cells U
  simp only [vcs] at Z
  subst Z
  have hR:=kB I H2.out
  have aE:=Qq (Y.out.thn I)
  have aK:=Qq U
  have HR:=Qq hR
  have fz:=fun j=>Qn _ _ j _ _ hR
  obtain ⟨f0,f1,f2,f3,f4⟩:=Qzj fz
  have rr:=fun j=>Qk _ _ j _ _ _ hR
  obtain ⟨r0,r1,r2,r3,r4⟩:=Qzj rr
  simp only [Qf,Qg,Qh] at r0 r1 r2 r3 r4
  clear fz rr U I hR
  go_wp2_with fail
  show bodyPost _ _ _ _ _ (Qqm w4 (w+1+1) r q3 l3 q4 l4)
  refine Q7 (v:=.agg (Qqg r q3 l3 q4 l4)) (by simp [results,results91,go_sem,Zd HR.out]) rfl ⟨_,rfl,?_,Zc aE.out Qqj⟩
  exact Z9.move aK.out (fun b hb _=>Zf (by have:=hb.2.1;omega)) (fun _ _ h=>h.1)
theorem ev_int (nm:Bs) (n:Int) (s:Bs) (names binds:List Bs) (kids:List Ex) (a z:Int) (env:List (Bs × Val)) :EvO (.mk 0 nm n s names binds kids a z) env (some (.mk 0 n [] [] [])):=by
 intro S0 S' cs p w aE O N M
 have aD:=Qq O
 clear O
 have Y:Xv (fun b=>S0 b∧b<w) w p env:=M.move (.refl _ _) (fun b hb h=>⟨h,hb⟩)
 obtain ⟨nv,bv,kv,rfl,aF,aG,hn,hb,Z⟩:=Yx.1 N
 obtain ⟨np,nc,rfl,_⟩:=hn.len
 obtain ⟨bp,bc,rfl,_⟩:=hb.len
 obtain ⟨kp,kc,rfl,aA⟩:=Z.len
 obtain ⟨q,rfl⟩:=Y.ptr
 obtain ⟨HE,HK,V,U⟩:=Qqp Y Z hn hb
 obtain ⟨kl,A⟩:=eX (kids.length)
 rw [A] at HK aA
 have aC:=Qq A
 clear N Y M hn hb Z
 unfold sv
 rw [A]
 clear A
 go_enter func91,ntmps91
 go_upto_region 3 with fail
 generalize D:((w.alloc _).alloc _).alloc _=w3
 have J:=eqB D (Xm _ _ _ _)
 have G:=eqH (b:=w.heap.size) D (Zp _ _ _ _)
 have h1:=eqH (b:=w.heap.size+1) D (Zo _ _ _ _)
 have I:=eqH (b:=w.heap.size+1+1) D (Zi _ _ _ _)
 have aH:w.heap.size+1+1<w3.heap.size:=Z8 I
 have c0:=rA0 G;have c1:=rA1 G;have c2:=rA2 G;have c3:=rA3 G;have c4:=rA4 G;have c5:=rA5 G;have c6:=rA6 G
 obtain ⟨H0,H1,H2,T⟩:=Qqp G h1 I J
 have fz:=fun j=>Qn _ _ j _ _ I;obtain ⟨f0,f1,f2,f3,f4⟩:=Qzj fz;have rr:=fun j=>Qk _ _ j _ _ _ I;obtain ⟨r0,r1,r2,r3,r4⟩:=Qzj rr
 simp only [Qf,Qg,Qh] at r0 r1 r2 r3 r4
 clear G h1 I J D HE HK c1 c3 c4 c5 c6 V U fz rr
 go_wp2_with fail
 show bodyPost _ _ _ _ _ (Zl w3 (w+1+1) Qqd n Qqe Qqf Qqf)
 refine Q7 (v:=.agg #[Qqd,n,Qqe,Qqf,Qqf]) (by simp [results,results91,go_sem,Zd H2.out]) rfl ⟨_,rfl,Y8 (s:=[]) Qqk (Sl.nil _ _ _) (Sl.nil _ _ _),Zc T.out Qqj⟩
theorem ev_text (nm:Bs) (n:Int) (s:Bs) (names binds:List Bs) (kids:List Ex) (a z:Int) (env:List (Bs × Val)) (hs:s.length≤4096):EvO (.mk 1 nm n s names binds kids a z) env (some (.mk 1 0 s [] [])):=by
 intro S0 S' cs p w aE O N M
 have aD:=Qq O
 clear O
 have Y:Xv (fun b=>S0 b∧b<w) w p env:=M.move (.refl _ _) (fun b hb h=>⟨h,hb⟩)
 obtain ⟨nv,bv,kv,rfl,aF,aH,hn,hb,Z⟩:=Yx.1 N
 obtain ⟨np,nc,rfl,_⟩:=hn.len
 obtain ⟨bp,bc,rfl,_⟩:=hb.len
 obtain ⟨kp,kc,rfl,aA⟩:=Z.len
 obtain ⟨q,rfl⟩:=Y.ptr
 obtain ⟨HE,HK,V,U⟩:=Qqp Y Z hn hb
 obtain ⟨kl,A⟩:=eX (kids.length)
 rw [A] at HK aA
 have aC:=Qq A
 clear N Y M hn hb Z
 unfold sv
 rw [A]
 clear A
 go_enter func91,ntmps91
 go_upto_region 3 with fail
 generalize D:((w.alloc _).alloc _).alloc _=w3
 have J:=eqB D (Xm _ _ _ _)
 have G:=eqH (b:=w.heap.size) D (Zp _ _ _ _)
 have h1:=eqH (b:=w.heap.size+1) D (Zo _ _ _ _)
 have I:=eqH (b:=w.heap.size+1+1) D (Zi _ _ _ _)
 have aI:w.heap.size+1+1<w3.heap.size:=Z8 I
 have c0:=rA0 G;have c1:=rA1 G;have c2:=rA2 G;have c3:=rA3 G;have c4:=rA4 G;have c5:=rA5 G;have c6:=rA6 G
 obtain ⟨H0,H1,H2,T⟩:=Qqp G h1 I J
 have aG:(s.length:Int)≤4096:=Qqj
 have HM:=Qq X8
 have fz:=fun j=>Qn _ _ j _ _ I;obtain ⟨f0,f1,f2,f3,f4⟩:=Qzj fz;have rr:=fun j=>Qk _ _ j _ _ _ I;obtain ⟨r0,r1,r2,r3,r4⟩:=Qzj rr
 simp only [Qf,Qg,Qh] at r0 r1 r2 r3 r4
 clear G h1 I J D HE HK c1 c2 c4 c5 c6 V U fz rr
 go_wp2_with (go_at_call 134;refine (HM.out _).mono ?_;rintro e w' ⟨rfl,rfl⟩)
 show bodyPost _ _ _ _ _ (Zl w3 (w+1+1) (.int .i64 1) Qqd s Qqf Qqf)
 refine Q7 (v:=.agg #[.int .i64 1,Qqd,s,Qqf,Qqf]) (by simp [results,results91,go_sem,Zd H2.out]) rfl ⟨_,rfl,Y8 Qqj (Sl.nil _ _ _) (Sl.nil _ _ _),Zc T.out Qqj⟩
def IsBin (o:Bs):Prop:=(o==[110,111,116])=false∧(o==[97,110,100])=false∧(o==[111,114])=false
def Lh (o:Bs) (f:Int→Bool):Prop:=(o=[61,61]∧f=fun c=>c==0)∨(o=[33,61]∧f=fun c=>c != 0)∨(o=[60]∧f=fun c=>decide (c<0))∨(o=[60,61]∧f=fun c=>decide (c≤0))
theorem op_no0 (g:Nat) (lb:Array Value) (eg:∀ args w,(callFunc g args).run prog w=.ok (.enter g args) w) (S0:Nat→Prop) (o:Bs) (w:World) (hbin:IsBin o)
  (h0:∀ W,Below w w W→w<W.heap.size→Calls prog g (#[.int .i64 0]++lb) W (Xy S0 W none)):
  Calls prog 140 #[o,.func (.func g) #[] lb,.int .i64 2] w (Bd w):=by
 have H0:=Qq h0;have HM:=Qq X8
 obtain ⟨e1,e2,e3⟩:=hbin
 clear h0
 go_enter func140,ntmps140
 go_wp2_with (go_at_call 134;refine (HM.out _).mono ?_;rintro e w' ⟨rfl,rfl⟩)
 refine (H0.out _ (Zg _ _) Qqk).mono ?_
 rintro e w1 ⟨rfl,hb⟩
 exact ⟨rfl,rfl,(Zg w _).thn hb⟩
theorem op_cmp (g:Nat) (lb:Array Value) (eg:∀ args w,(callFunc g args).run prog w=.ok (.enter g args) w) (S0:Nat→Prop) (o:Bs) (f:Int→Bool) (u v:Val) (w:World) (hS0:∀ b,S0 b→b≠w.heap.size) (ho:Lh o f)
  (h0:∀ W,Below w w W→w<W.heap.size→Calls prog g (#[.int .i64 0]++lb) W (Xy S0 W (some u))) (h1:∀ W,Below w w W→w<W.heap.size→Calls prog g (#[.int .i64 1]++lb) W (Xy S0 W (some v))):
  Calls prog 140 #[o,.func (.func g) #[] lb,.int .i64 2] w (Xy S0 w (some (Xr (f (Yz u v))))):=by
 obtain ⟨H0,H1,HM,aO⟩:=Qqp h0 h1 X8 hS0
 have J:=Qq (fun cu cv W (hu:Z9 S0 W cu u) (hv:Z9 S0 W cv v)=>Ga S0 u v cu cv W hu hv)
 have M:=Qq (Uv (f (Yz u v)) S0)
 obtain ⟨r,V⟩:=eX (Xr (f (Yz u v)))
 rw [V] at M ⊢
 clear h0 h1 V hS0
 generalize Yz u v=c at J M
 rcases ho with ⟨rfl,rfl⟩ | ⟨rfl,rfl⟩ | ⟨rfl,rfl⟩ | ⟨rfl,rfl⟩
 all_goals
  go_enter func140,ntmps140
  go_wp2_with (go_at_call 134;refine (HM.out _).mono ?_;rintro e w' ⟨rfl,rfl⟩)
  refine (H0.out _ (Zg _ _) Qqk).mono ?_
  rintro e w1 ⟨cu,rfl,hu,O⟩
  obtain ⟨a3,aW,a4,aX,A,_⟩:=Z9.cells hu
  simp only [vcs] at A
  subst A
  obtain ⟨N,aB,HU⟩:=Qqo ((O.block w Qqk).trans (Qw w _)) ((Zg w _).thn O) hu
  clear hu O
  go_wp2_with fail
  refine (H1.out _ aB.out (Z8 N.out)).mono ?_
  rintro e w2 ⟨cv,rfl,hv,I⟩
  obtain ⟨b3,aY,b4,aZ,A,_⟩:=Z9.cells hv
  simp only [vcs] at A
  subst A
  have aC:=Qq ((I.block w (Z8 N.out)).trans N.out);have aI:=Qq (aB.out.thn I)
  have aP:=Qq (Z9.move HU.out (.of_below I) Qzx);have aR:=Qq hv
  clear hv I
  go_upto_region 10 with fail
  generalize G:(w2.alloc _).alloc _=w4
  have D:=eqB G (Zt _ _ _)
  have Z:=eqH (b:=w2.heap.size) G (Q5 _ _ _)
  have g2:=eqH (b:=w2.heap.size+1) G (Q6 _ _ _)
  have aD:=Qq ((D.block w (Z8 aC.out)).trans aC.out);have aJ:=Qq (aI.out.thn D)
  have aQ:=Qq (Z9.move aP.out (.of_below D) Qzx);have aS:=Qq (Z9.move aR.out (.of_below D) Qzx)
  have x0:=rA0 Z;have y0:=rA0 g2;have x1:=rA1 Z;have y1:=rA1 g2;have x2:=rA2 Z;have y2:=rA2 g2;have x3:=rA3 Z;have y3:=rA3 g2;have x4:=rA4 Z;have y4:=rA4 g2
  clear D Z g2 G
  have aM:=Qq (J.out _ _ w4 aQ.out aS.out)
  go_wp2_with fail
  refine aM.out.mono ?_
  rintro e w5 ⟨rfl,aF⟩
  have T:=aF.bl
  have aE:=Qq ((T.block w (Z8 aD.out)).trans aD.out);have aK:=Qq (aJ.out.thn T)
  clear T aF
  go_wp2_with (go_at_call 135;refine (M.out _).mono ?_;rintro e w6 ⟨cr,rfl,Y,U⟩;obtain ⟨q3,l3,q4,l4,A,_⟩:=Z9.cells Y;simp only [vcs] at A;subst A;have aL:=Qq U;have aT:=Qq Y;have V:=(U.block w (Z8 aE.out)).trans aE.out;have aN:=Qq V;have fz:=fun j=>Qn _ _ j _ _ V;obtain ⟨f0,f1,f2,f3,f4⟩:=Qzj fz;have rr:=fun j=>Qk _ _ j _ _ _ V;obtain ⟨r0,r1,r2,r3,r4⟩:=Qzj rr;simp only [Qf,Qg,Qh] at r0 r1 r2 r3 r4;clear fz rr V Y U)
  show bodyPost _ _ _ _ _ (Qqm w6 w r q3 l3 q4 l4)
  refine Q7 (v:=.agg (Qqg r q3 l3 q4 l4)) (by simp [results,results140,go_sem,Zd aN.out]) rfl ⟨_,rfl,?_,Zc (aK.out.thn aL.out) (Q9 _)⟩
  exact Z9.move aT.out (fun b hb _=>Zf (by have:=aO.out b hb;omega)) Qzx
end Go.Proofs.YtdpibdpbgokmoaaGreatDoor
