import Derived.Test.YtlanplhphiikjaaGreatDoorF13
import Derived.Test.YtlanplhphiikjaaGreatDoorF10
import Derived.Test.YtlanplhphiikjaaGreatDoorF08
set_option maxRecDepth 100000
set_option maxHeartbeats 400000000
namespace Go.Proofs.YtlanplhphiikjaaGreatDoor
open Go.RowKit Go.Shelf Go.Lib Tryz
inductive Vq (S:Nat->Prop) (w:World):Value->List (Bs × Val)->Prop
 | nil:Vq S w (.pointer none) []
 | cons (b:Nat) (outer:Option Addr) (x:Bs) (v:Val) (p3:Option Addr) (k3:Nat) (p4:Option Addr) (k4:Nat) (env:List (Bs × Val)) (hS:S b) (h0:w.heap[b]?=some (.cells #[.pointer outer,x,v.kind,v.n,v.s,.slice p3 v.names.length k3,.slice p4 v.kids.length k4] 182 (0,0)))
   (hx:x.length<=1000000) (hv:Z5 S w (vcs v p3 k3 p4 k4) v) (ho:Vq S w (.pointer outer) env):Vq S w (.pointer (some ⟨b,0,none⟩)) ((x,v)::env)
theorem Vq.move {S S':Nat->Prop} {w w':World} {p:Value} {env:List (Bs × Val)} (h:Vq S w p env) (hA:Ys S w w') (hS:∀ b,b<w.heap.size->S b->S' b):Vq S' w' p env:=by
 induction h with
 | nil=>exact .nil
 | cons b outer x v p3 k3 p4 k4 env hSb h0 hx hv ho ih=>exact .cons b outer x v p3 k3 p4 k4 env (hS b (Z3 h0) hSb) ((hA b hSb (Z3 h0)).trans h0) hx (hv.move hA hS) ih
theorem Vq.ptr {S:Nat->Prop} {w:World} {p:Value} {env:List (Bs × Val)} (h:Vq S w p env):∃ q,p=.pointer q:=by cases h <;> exact ⟨_,rfl⟩
theorem Zf (w:World) (A B C:Obj):(((w.alloc A).alloc B).alloc C).heap[w.heap.size+1]?=some B:=
 ((Zb ((w.alloc A).alloc B) C).block (w+1) Od).trans (Q1 w A B)
theorem Ze (w:World) (A B C:Obj):(((w.alloc A).alloc B).alloc C).heap[w.heap.size]?=some A:=
 ((Zb ((w.alloc A).alloc B) C).block w (by simp;omega)).trans (Q0 w A B)
def EvV (e:Ex) (env:List (Bs × Val)) (v:Val):Prop:=∀ (S S':Nat->Prop) (cs:List Value) (p:Value) (w:World),Yj S' w cs e->Vq S w p env->Calls prog 125 #[cs,p] w (J5 S w v)
theorem ev_bool (nm:Bs) (n:Int) (s:Bs) (names binds:List Bs) (kids:List Ex) (a z:Int) (env:List (Bs × Val)):EvV (.mk 2 nm n s names binds kids a z) env (Yb (n==1)):=by
 intro S S' cs p w hx he
 obtain ⟨nv,bv,kv,rfl,_,_,hn,hb,hk⟩:=Yz.1 hx
 obtain ⟨np,nc,rfl,_⟩:=hn.len
 obtain ⟨bp,bc,rfl,_⟩:=hb.len
 obtain ⟨kp,kc,rfl,_⟩:=hk.len
 obtain ⟨q,rfl⟩:=he.ptr
 have HB:=Qq (Ks (n==1) (fun b=>S b/\b<w))
 clear hx he hn hb hk
 unfold sv
 go_enter func125,ntmps125
 obtain ⟨v,hv⟩:=eX (Yb (n==1))
 rw [hv] at HB |-
 clear hv
 go_wp2_with fail
 refine (HB.out _).mono ?_
 rintro e w1 ⟨N,rfl,I,G⟩
 obtain ⟨q3,l3,q4,l4,J,_⟩:=Z5.cells I
 simp only [vcs] at J
 subst J
 have D:=Qq ((G.block (w+1+1) Od).trans (Z9 w _ _ _))
 have L:=Qq ((Yr w _ _ _).thn G);have M:=Qq I
 have fz:=fun j=>Qg _ _ j _ _ D.out
 obtain ⟨f0,f1,f2,f3,f4⟩:=P3 fz
 have rr:=fun j=>Qk _ _ j _ _ _ D.out
 obtain ⟨r0,r1,r2,r3,r4⟩:=P3 rr
 simp only [Qa,Qb,Qc] at r0 r1 r2 r3 r4
 clear fz rr I G
 go_wp2_with fail
 show bodyPost _ _ _ _ _ (Pk w1 (w+1+1) v q3 l3 q4 l4)
 refine Q2 (v:=.agg (Ou v q3 l3 q4 l4)) (by simp [results,results125,go_sem,Z8 D.out]) rfl ⟨_,rfl,?_,Z7 L.out Oa⟩
 exact Z5.move M.out (fun b hb _=>Za (by have:=hb.2;omega)) (fun _ _ h=>h.1)
theorem ev_var (nm:Bs) (n:Int) (s:Bs) (names binds:List Bs) (kids:List Ex) (a z:Int) (env:List (Bs × Val)) (v:Val) (hlk:Xq nm env=some v):EvV (.mk 3 nm n s names binds kids a z) env v:=by
 intro S0 S' cs p w hx T
 have he:Vq (fun b=>S0 b/\b<w) w p env:=T.move (.refl _ _) (fun b hb h=>⟨h,hb⟩)
 obtain ⟨nv,bv,kv,rfl,_,_,hn,hb,hk⟩:=Yz.1 hx
 obtain ⟨np,nc,rfl,_⟩:=hn.len
 obtain ⟨bp,bc,rfl,_⟩:=hb.len
 obtain ⟨kp,kc,rfl,_⟩:=hk.len
 obtain ⟨q,rfl⟩:=he.ptr
 have HE:=Qq he;have aB:=Qq hlk
 clear hx he T hn hb hk hlk
 unfold sv
 go_enter func125,ntmps125
 go_upto_region 3 with fail
 generalize I:((w.alloc _).alloc _).alloc _=w3
 have L:=eqB I (Yr _ _ _ _)
 have h0:=eqH (b:=w.heap.size) I (Ze _ _ _ _)
 have h1:=eqH (b:=w.heap.size+1) I (Zf _ _ _ _)
 have h2:=eqH (b:=w.heap.size+1+1) I (Z9 _ _ _ _)
 have c0:=rA0 h0;have d0:=rA0 h1
 obtain ⟨H0,H2,Y,Z⟩:=Py h0 h2 L (HE.out.move (.of_below L) P8)
 clear h0 h1 h2 L I HE
 go_wp2_with fail
 go_loopg [7] env.length (fun k p wr=>∃ D,k=D.length/\Vq (fun b=>S0 b/\b<w) wr p D/\Aside (Xq nm D=some v)/\Below w3 w3 wr)
 case atStart=>exact ⟨env,rfl,Z.out,aB.out,Qz _ _⟩
 obtain ⟨D,rfl,hE,V,G⟩:=hrel
 cases hE with
 | nil=>cases V.out
 | cons b outer x u p3 k3 p4 k4 rest hS hb0 hxl hu ho=>
  have c1:=rA1 ((kB G H0.out));have x0:=rA0 hb0;have x1:=rA1 hb0;have x2:=rA2 hb0;have x3:=rA3 hb0;have x4:=rA4 hb0;have x5:=rA5 hb0;have x6:=rA6 hb0
  have O:=kB G H2.out
  obtain ⟨HR,HU,HO,M,aG⟩:=Pw O hu ho G hS
  have J:=V.out
  by_cases hxn:x=nm
  ·have U:u=v:=by
    have h:(if x=nm then some u else Xq nm rest)=some v:=J
    rw [if_pos hxn] at h;exact Q6 h
   have aD:=Qq U
   subst hxn
   have fz:=fun j=>Qg _ _ j _ _ O
   obtain ⟨f0,f1,f2,f3,f4⟩:=P3 fz
   have rr:=fun j=>Qk _ _ j _ _ _ O
   obtain ⟨r0,r1,r2,r3,r4⟩:=P3 rr
   simp only [Qa,Qb,Qc] at r0 r1 r2 r3 r4
   clear V J G O hu ho hb0 fz rr U hS
   go_wp2_with fail
   go_quiet (fail)
   go_wp2_with fail
   have aC:=Qq (kB (Yv wr nq) HR.out)
   show bodyPost _ _ _ _ _ (Pk (wr.drewN nq) (w+1+1) u p3 k3 p4 k4)
   refine Q2 (v:=.agg (Ou u p3 k3 p4 k4)) (by simp [results,results125,go_sem,Z8 aC.out]) rfl ⟨_,rfl,?_,Z7 ((Y.out.thn M.out).thn (Yv wr nq)) Oa⟩
   rw [<- aD.out]
   exact Z5.move HU.out (fun b hb _=>Za (by have:=hb.2;omega)) (fun _ _ h=>h.1)
  have N:Xq nm rest=some v:=by
   have h:(if x=nm then some u else Xq nm rest)=some v:=J
   rw [if_neg hxn] at h;exact h
  have aA:=Qq N
  have hq:(x==nm)=false:=by simpa using hxn
  clear V J N G O hu ho hb0 hxn hS
  go_wp2_with fail
  go_quiet (fail)
  go_wp2_with fail
  go_roundg rest.length
  case measure=>simp
  case rel=>exact ⟨rest,rfl,HO.out.move (.of_below (Yv wr nq)) P8,aA.out,M.out.thn (Yv wr nq)⟩
theorem Ue.at {B:Nat} {w:World} {g n cap:Nat} {l:List Rel} {rvs:List Value} (h:Ue B w (.slice (some ⟨g,0,none⟩) n cap) l rvs) {i:Nat} {r:Rel} {rv:Value} (hi:l[i]?=some r) (hrv:rvs[i]?=some rv):
  ∃ cur,w.heap[g]?=some (.cells cur 42 (0,0))/\cur[i*2]?=some (sv r.table)/\cur[i*2+1]?=some rv:=by
 rcases h.row.2 with ⟨e,_⟩ | ⟨g',I,cur,e,hB,hh,_,_,_,ht⟩
 ·cases e
 simp only [Ql,Qu,Addr.mk.injEq] at e
 obtain ⟨⟨rfl,_⟩,_,rfl⟩:=e
 have hc:=J8 hi hrv
 have h0:=X8 (k:=2) Kn hc (j:=0) (u:=sv r.table) rfl
 have h1:=X8 (k:=2) Kn hc (j:=1) (u:=rv) rfl
 have D:∀ (j:Nat) (u:Value),(Yp l rvs).flatten[j]?=some u->cur[j]?=some u:=by
  intro j u G
  rw [<- ht,List.getElem?_take] at G
  split at G
  ·simpa using G
  cases G
 exact ⟨cur,hh,D _ _ h0,D _ _ h1⟩
theorem Own.sl' {T:Type} {r:Rd T} {E:TypeId} {S S':Nat->Prop} {B:Nat} {w:World} {v:Value} {xs:List T} {css:List (List Value)} (h:Own r E S B w v xs css) (hl:xs.length<=1000000)
  (h1:∀ b,v.ownBlock=some b->S' b) (h2:∀ b,b<w.heap.size->S b->S' b):Sl r S' w v xs:=by
 rcases h.row.2 with ⟨rfl,h0⟩ | ⟨g,cap,D,rfl,hB,hg,_,_,_,ht⟩
 ·rw [Zq h0];exact Sl.nil _ _ _
 refine Sl.of_css (css:=css) hl (h.cs.move (.refl _ _) (fun b hb h=>h2 b hb h.1)) (h1 g rfl) (Array.getElem?_eq_some_iff.1 hg).1 (fun j u hu=>?_)
 rw [Nat.zero_add];exact B3 hg ht hu
theorem Ue.own {B:Nat} {w:World} {v:Value} {l:List Rel} {rvs:List Value} (h:Ue B w v l rvs) (hr:∀ r ∈ l,r.rows.length<=1000000):Own Yd 42 (fun _=>True) B w v l (Yp l rvs):=by
 refine ⟨h.row,⟨Km h.len,fun i c x hc G=>?_⟩⟩
 have hi:=(Qj G).1
 obtain ⟨I,D⟩:∃ I,rvs[i]?=some I:=⟨_,Qx (by rw [h.len];exact hi)⟩
 rw [J8 G D] at hc
 cases hc
 obtain ⟨css,ho⟩:=h.rows i x I G D
 refine ⟨I,rfl,h.tl x (Qy G),ho.sl' (hr x (Qy G)) (fun b hb=>⟨trivial,fun e=>?_⟩) (fun b _ hb=>⟨trivial,fun e=>hb.1 e.symm⟩)⟩
 exact Xb h.row ho.row Of e.symm hb
end Go.Proofs.YtlanplhphiikjaaGreatDoor
