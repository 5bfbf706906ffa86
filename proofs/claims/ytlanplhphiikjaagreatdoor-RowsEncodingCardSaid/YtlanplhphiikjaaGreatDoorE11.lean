import Derived.Test.YtlanplhphiikjaaGreatDoorE09
import Derived.Test.YtlanplhphiikjaaGreatDoorE08
set_option maxRecDepth 100000
set_option maxHeartbeats 400000000
namespace Go.Proofs.YtlanplhphiikjaaGreatDoor
open Go.RowKit Go.Shelf Go.Lib Tryz
def zz (n:Int):Nat:=if 0<=n then (2*n).toNat else (-2*n - 1).toNat
theorem xor_zero (x:Int) (h0:0<=x) (h1:x<18446744073709551616):bits BinOp.xor IntKind.u64 x 0=x:=by
 show IntKind.u64.wrap ((BitVec.ofInt 64 x ^^^ BitVec.ofInt 64 0).toNat:Int)=x
 have e:BitVec.ofInt 64 0=0#64:=Qxv
 rw [e,BitVec.xor_zero,IntKind.wrap_u64,BitVec.toNat_ofInt]
 omega
theorem Rw (x:Int) (h0:0<=x) (h1:x<18446744073709551616):bits BinOp.xor IntKind.u64 x 18446744073709551615=18446744073709551615 - x:=by
 show IntKind.u64.wrap ((BitVec.ofInt 64 x ^^^ BitVec.ofInt 64 18446744073709551615).toNat:Int)=_
 have e:BitVec.ofInt 64 18446744073709551615=BitVec.allOnes 64:=Qxv
 rw [e,BitVec.xor_allOnes,BitVec.toNat_not,IntKind.wrap_u64,BitVec.toNat_ofInt]
 omega
theorem zig_any (n:Int) (h0:-2305843009213693952<=n) (h1:n<2305843009213693952) (w:World):Calls prog 86 #[n] w fun e w'=>e=.returned (.int .u64 (zz n))/\w=w':=by
 by_cases h:0<=n
 ·have A:bits BinOp.xor IntKind.u64 (n*2) (n / 9223372036854775808)=(zz n:Nat):=by
   rw [show n / 9223372036854775808=0 by omega,xor_zero _ Qvu Qvu]
   unfold zz;rw [if_pos h];omega
  have D:=Qq A
  clear A
  go_enter func86,ntmps86
  go_wp2_with fail
  go_ret
  exact ⟨Ys D.out,rfl⟩
 have h':n<0:=Qvu
 have A:bits BinOp.xor IntKind.u64 (IntKind.u64.wrap (IntKind.u64.wrap n*2)) (IntKind.u64.wrap (n / 9223372036854775808))=(zz n:Nat):=by
  rw [IntKind.wrap_u64,IntKind.wrap_u64,IntKind.wrap_u64,show n / 9223372036854775808 % 18446744073709551616=18446744073709551615 by omega,Rw _ Qvu Qvu]
  unfold zz;rw [if_neg h];omega
 have D:=Qq A
 clear A h
 go_enter func86,ntmps86
 go_wp2_with fail
 go_ret
 exact ⟨Ys D.out,rfl⟩
theorem Cd {n:Int} (h0:-2305843009213693952<=n) (h1:n<2305843009213693952):zz n<18446744073709551616:=by unfold zz;split <;> omega
theorem zz_inj {a b:Int} (h:zz a=zz b):a=b:=by unfold zz at h;split at h <;> split at h <;> omega
theorem vb_inj:∀ (n a b:Nat) (x y:Bs),a<=n->vb a++x=vb b++y->a=b/\x=y
 | n,a,b,x,y,hn,h=>by
  by_cases ha:a<128
  ·by_cases hb:b<128
   ·rw [Kg ha,Kg hb] at h
    simp only [List.cons_append,List.nil_append,List.cons.injEq] at h
    have h1:=congrArg UInt8.toNat h.1
    rw [UInt8.toNat_ofNat',UInt8.toNat_ofNat'] at h1
    exact ⟨Qvu,h.2⟩
   rw [Kg ha,Ds hb] at h
   simp only [List.cons_append,List.nil_append,List.cons.injEq] at h
   have h1:=congrArg UInt8.toNat h.1
   rw [UInt8.toNat_ofNat',UInt8.toNat_ofNat'] at h1
   omega
  by_cases hb:b<128
  ·rw [Ds ha,Kg hb] at h
   simp only [List.cons_append,List.nil_append,List.cons.injEq] at h
   have h1:=congrArg UInt8.toNat h.1
   rw [UInt8.toNat_ofNat',UInt8.toNat_ofNat'] at h1
   omega
  rw [Ds ha,Ds hb] at h
  simp only [List.cons_append,List.cons.injEq] at h
  have h1:=congrArg UInt8.toNat h.1
  rw [UInt8.toNat_ofNat',UInt8.toNat_ofNat'] at h1
  cases n with
  | zero=>omega
  | succ n=>
   obtain ⟨h2,h3⟩:=vb_inj n (a / 128) (b / 128) x y Qvu h.2
   exact ⟨Qvu,h3⟩
theorem Qjj (g:Nat) (w:World) (v:Value) (bs:Bs) (n:Int) (h:WAt g w v bs) (h0:-2305843009213693952<=n) (h1:n<2305843009213693952) (hl:bs.length<=100000):
  Calls prog 33 #[Qxb g,n] w (K8 g w v (bs++vb (zz n))):=by
 have HZ:=Qq (zig_any n h0 h1 w)
 have A:=Qq (Le g w v bs (zz n) h (Cd h0 h1) hl)
 clear h h0 h1 hl
 generalize zz n=m at HZ A |-
 generalize D:bs++vb m=b2 at A |-
 clear D
 go_enter func33,ntmps33
 go_wp2_with (first | (go_at_call 86;refine HZ.out.mono ?_;rintro e w' ⟨rfl,rfl⟩) | (go_at_call 85;refine A.out.mono ?_;rintro e w' ⟨rfl,hw⟩))
 go_end0
 exact ⟨rfl,hw⟩
theorem Qzs (g:Nat) (w:World) (v:Value) (bs:Bs) (a n:Int) (b:Nat) (hA:WAt g w v bs) (h0:-2305843009213693952<=n) (h1:n<2305843009213693952) (a0:-2305843009213693952<=a) (a1:a<2305843009213693952) (hl:bs.length<=10000)
  (hb:w.heap[b]?=some (.cells #[a,n] 3 (0,0))) (hbg:b≠g) (hbv:v.ownBlock≠some b):
  Calls prog 91 #[Qxb g,Qxa b 0 2 2] w (K8 g w v (bs++vb (zz a)++vb (zz n))):=by
 obtain ⟨HA,HB,HV,H0,H1,aA,aB⟩:=Qxs hA hb hbv h0 h1 a0 a1
 have aH:=Kw (Cd a0 a1)
 clear hA hb hbv h0 h1 a0 a1
 go_enter func91,ntmps91
 go_wp2_with fail
 go_loopw [8] (fun i wr=>∃ (k:Nat) (cs:Bs) (u:Value),k<=2/\i=.int .i64 k/\Aside (k=0->cs=bs)/\Aside (k=1->cs=bs++vb (zz a))/\Aside (k=2->cs=bs++vb (zz a)++vb (zz n))/\WAt g wr u cs/\Xk g w v wr u) (fun i _=>2 - (intOf i).toNat)
 case atStart=>exact ⟨0,bs,v,Qvu,rfl,fun _=>rfl,fun h=>Qvu,fun h=>Qvu,HA.out,Xk.refl _ _ _⟩
 obtain ⟨k,cs,u,hk,rfl,V,Y,Z,hA,hS⟩:=hrel
 have U:wr.heap[b]?=some (.cells #[a,n] 3 (0,0)):=by
  rw [hS.keep b (Z8 HB.out) hbg (fun e=>HV.out e.symm)];exact HB.out
 obtain ⟨c0,c1⟩:=row2 U
 have HS:=Qq hS
 clear U hS
 match k,hk with
 | 0,_=>
  have A:cs=bs:=V.out rfl
  subst A
  have T:=Qq (Qjj g wr u cs a hA aA.out aB.out Qvu)
  clear V Y Z hA
  generalize D:cs++vb (zz a)=b2 at T
  have N:=Qq D
  clear D
  rw [show ((0:Nat):Int)=0 from rfl]
  go_wp2_with (go_at_call 33;refine T.out.mono ?_;rintro e w' ⟨rfl,v',I,J⟩;have M:=Qq I;have O:=Qq J;clear I J)
  go_roundw
  case measure=>simp [intOf]
  case rel=>exact ⟨1,b2,v',Qvu,rfl,fun h=>Qvu,fun _=>(by first | exact N.out.symm | rfl),fun h=>Qvu,M.out,HS.out.trans O.out⟩
 | 1,_=>
  have A:cs=bs++vb (zz a):=Y.out rfl
  have T:=Qq (Qjj g wr u cs n hA H0.out H1.out (by rw [A,Ql];omega))
  clear V Y Z hA
  generalize D:cs++vb (zz n)=b2 at T
  rw [A] at D
  have N:=Qq D
  clear D A
  rw [show ((1:Nat):Int)=1 from rfl]
  go_wp2_with (go_at_call 33;refine T.out.mono ?_;rintro e w' ⟨rfl,v',I,J⟩;have M:=Qq I;have O:=Qq J;clear I J)
  go_roundw
  case measure=>simp [intOf]
  case rel=>exact ⟨2,b2,v',Qvu,rfl,fun h=>Qvu,fun h=>Qvu,fun _=>(by first | exact N.out.symm | rfl),M.out,HS.out.trans O.out⟩
 | 2,_=>
  have A:cs=bs++vb (zz a)++vb (zz n):=Z.out rfl
  have aD:=Qq A
  have aC:=Qq hA
  clear V Y Z hA A
  rw [show ((2:Nat):Int)=2 from rfl]
  go_wp2_with fail
  go_end0
  exact ⟨rfl,u,by rw [<- aD.out];exact aC.out,HS.out⟩
inductive J9 (S:Nat->Prop) (w:World):Value->List (Bs × Val)->Prop
 | nil:J9 S w (.pointer none) []
 | cons (b:Nat) (outer:Option Addr) (x:Bs) (v:Val) (p3:Option Addr) (k3:Nat) (p4:Option Addr) (k4:Nat) (env:List (Bs × Val)) (hS:S b) (h0:w.heap[b]?=some (.cells #[.pointer outer,x,v.kind,v.n,v.s,.slice p3 v.names.length k3,.slice p4 v.kids.length k4] 182 (0,0)))
   (hx:x.length<=1000000) (hv:Za S w (vcs v p3 k3 p4 k4) v) (ho:J9 S w (.pointer outer) env):J9 S w (.pointer (some ⟨b,0,none⟩)) ((x,v)::env)
theorem J9.move {S S':Nat->Prop} {w w':World} {p:Value} {env:List (Bs × Val)} (h:J9 S w p env) (hA:Vz S w w') (hS:∀ b,b<w.heap.size->S b->S' b):J9 S' w' p env:=by
 induction h with
 | nil=>exact .nil
 | cons b outer x v p3 k3 p4 k4 env hSb h0 hx hv ho ih=>exact .cons b outer x v p3 k3 p4 k4 env (hS b (Z8 h0) hSb) ((hA b hSb (Z8 h0)).trans h0) hx (hv.move hA hS) ih
theorem J9.ptr {S:Nat->Prop} {w:World} {p:Value} {env:List (Bs × Val)} (h:J9 S w p env):∃ q,p=.pointer q:=by cases h <;> exact ⟨_,rfl⟩
theorem Y8 (w:World) (A B C:Obj):(((w.alloc A).alloc B).alloc C).heap[w.heap.size+1]?=some B:=
 ((Ze ((w.alloc A).alloc B) C).block (w+1) Qxz).trans (Q6 w A B)
theorem Yc (w:World) (A B C:Obj):(((w.alloc A).alloc B).alloc C).heap[w.heap.size]?=some A:=
 ((Ze ((w.alloc A).alloc B) C).block w (by simp;omega)).trans (Q5 w A B)
def EvV (e:Ex) (env:List (Bs × Val)) (v:Val):Prop:=∀ (S S':Nat->Prop) (cs:List Value) (p:Value) (w:World),Y1 S' w cs e->J9 S w p env->Calls prog 125 #[cs,p] w (L0 S w v)
theorem ev_bool (nm:Bs) (n:Int) (s:Bs) (names binds:List Bs) (kids:List Ex) (a z:Int) (env:List (Bs × Val)):EvV (.mk 2 nm n s names binds kids a z) env (Gb (n==1)):=by
 intro S S' cs p w hx he
 obtain ⟨nv,bv,kv,rfl,_,_,hn,hb,hk⟩:=Yd.1 hx
 obtain ⟨np,nc,rfl,_⟩:=hn.len
 obtain ⟨bp,bc,rfl,_⟩:=hb.len
 obtain ⟨kp,kc,rfl,_⟩:=hk.len
 obtain ⟨q,rfl⟩:=he.ptr
 have HB:=Qq (Em (n==1) (fun b=>S b/\b<w))
 clear hx he hn hb hk
 unfold sv
 go_enter func125,ntmps125
 obtain ⟨v,hv⟩:=eX (Gb (n==1))
 rw [hv] at HB |-
 clear hv
 go_wp2_with fail
 refine (HB.out _).mono ?_
 rintro e w1 ⟨O,rfl,I,D⟩
 obtain ⟨q3,l3,q4,l4,J,_⟩:=Za.cells I
 simp only [vcs] at J
 subst J
 have A:=Qq ((D.block (w+1+1) Qxz).trans (Yz w _ _ _))
 have M:=Qq ((U8 w _ _ _).thn D);have N:=Qq I
 have fz:=fun j=>Qn _ _ j _ _ A.out
 obtain ⟨f0,f1,f2,f3,f4⟩:=Qxu fz
 have rr:=fun j=>Qk _ _ j _ _ _ A.out
 obtain ⟨r0,r1,r2,r3,r4⟩:=Qxu rr
 simp only [Qf,Qg,Qh] at r0 r1 r2 r3 r4
 clear fz rr I D
 go_wp2_with fail
 show bodyPost _ _ _ _ _ (Qxl w1 (w+1+1) v q3 l3 q4 l4)
 refine Q7 (v:=.agg (Qxf v q3 l3 q4 l4)) (by simp [results,results125,go_sem,Zd A.out]) rfl ⟨_,rfl,?_,Zf M.out Qvu⟩
 exact Za.move N.out (fun b hb _=>Zi (by have:=hb.2;omega)) (fun _ _ h=>h.1)
theorem ev_var (nm:Bs) (n:Int) (s:Bs) (names binds:List Bs) (kids:List Ex) (a z:Int) (env:List (Bs × Val)) (v:Val) (hlk:Ly nm env=some v):EvV (.mk 3 nm n s names binds kids a z) env v:=by
 intro S0 S' cs p w hx U
 have he:J9 (fun b=>S0 b/\b<w) w p env:=U.move (.refl _ _) (fun b hb h=>⟨h,hb⟩)
 obtain ⟨nv,bv,kv,rfl,_,_,hn,hb,hk⟩:=Yd.1 hx
 obtain ⟨np,nc,rfl,_⟩:=hn.len
 obtain ⟨bp,bc,rfl,_⟩:=hb.len
 obtain ⟨kp,kc,rfl,_⟩:=hk.len
 obtain ⟨q,rfl⟩:=he.ptr
 have HE:=Qq he;have aC:=Qq hlk
 clear hx he U hn hb hk hlk
 unfold sv
 go_enter func125,ntmps125
 go_upto_region 3 with fail
 generalize I:((w.alloc _).alloc _).alloc _=w3
 have M:=eqB I (U8 _ _ _ _)
 have h0:=eqH (b:=w.heap.size) I (Yc _ _ _ _)
 have h1:=eqH (b:=w.heap.size+1) I (Y8 _ _ _ _)
 have h2:=eqH (b:=w.heap.size+1+1) I (Yz _ _ _ _)
 have c0:=rA0 h0;have d0:=rA0 h1
 obtain ⟨H0,H2,Z,aA⟩:=Qxo h0 h2 M (HE.out.move (.of_below M) Qyv)
 clear h0 h1 h2 M I HE
 go_wp2_with fail
 go_loopg [7] env.length (fun k p wr=>∃ A,k=A.length/\J9 (fun b=>S0 b/\b<w) wr p A/\Aside (Ly nm A=some v)/\Below w3 w3 wr)
 case atStart=>exact ⟨env,rfl,aA.out,aC.out,Qz _ _⟩
 obtain ⟨A,rfl,hE,Y,D⟩:=hrel
 cases hE with
 | nil=>cases Y.out
 | cons b outer x u p3 k3 p4 k4 rest hS hb0 hxl hu ho=>
  have c1:=rA1 ((kB D H0.out));have x0:=rA0 hb0;have x1:=rA1 hb0;have x2:=rA2 hb0;have x3:=rA3 hb0;have x4:=rA4 hb0;have x5:=rA5 hb0;have x6:=rA6 hb0
  have T:=kB D H2.out
  obtain ⟨HR,HU,HO,N,aH⟩:=Qxp T hu ho D hS
  have J:=Y.out
  by_cases hxn:x=nm
  ·have V:u=v:=by
    have h:(if x=nm then some u else Ly nm rest)=some v:=J
    rw [if_pos hxn] at h;exact Qb h
   have aE:=Qq V
   subst hxn
   have fz:=fun j=>Qn _ _ j _ _ T
   obtain ⟨f0,f1,f2,f3,f4⟩:=Qxu fz
   have rr:=fun j=>Qk _ _ j _ _ _ T
   obtain ⟨r0,r1,r2,r3,r4⟩:=Qxu rr
   simp only [Qf,Qg,Qh] at r0 r1 r2 r3 r4
   clear Y J D T hu ho hb0 fz rr V hS
   go_wp2_with fail
   go_quiet (fail)
   go_wp2_with fail
   have aD:=Qq (kB (Zn wr nq) HR.out)
   show bodyPost _ _ _ _ _ (Qxl (wr.drewN nq) (w+1+1) u p3 k3 p4 k4)
   refine Q7 (v:=.agg (Qxf u p3 k3 p4 k4)) (by simp [results,results125,go_sem,Zd aD.out]) rfl ⟨_,rfl,?_,Zf ((Z.out.thn N.out).thn (Zn wr nq)) Qvu⟩
   rw [<- aE.out]
   exact Za.move HU.out (fun b hb _=>Zi (by have:=hb.2;omega)) (fun _ _ h=>h.1)
  have O:Ly nm rest=some v:=by
   have h:(if x=nm then some u else Ly nm rest)=some v:=J
   rw [if_neg hxn] at h;exact h
  have aB:=Qq O
  have hq:(x==nm)=false:=by simpa using hxn
  clear Y J O D T hu ho hb0 hxn hS
  go_wp2_with fail
  go_quiet (fail)
  go_wp2_with fail
  go_roundg rest.length
  case measure=>simp
  case rel=>exact ⟨rest,rfl,HO.out.move (.of_below (Zn wr nq)) Qyv,aB.out,N.out.thn (Zn wr nq)⟩
theorem Sl.int {S:Nat->Prop} {w:World} {p:Option Addr} {n cap:Nat} {xs:List Int} (h:Sl Fl S w (.slice p n cap) xs) {i:Nat} {x:Int} (hx:xs[i]?=some x):
  ∃ b off,p=some ⟨b,off,none⟩/\Qxw w b (off+i) x/\True:=by
 obtain ⟨p',c',h1,_,h3⟩:=h
 simp only [Qr] at h1
 obtain ⟨rfl,_,_⟩:=h1
 obtain ⟨b,off,e,_,_,hc⟩:=h3 (by intro e;subst e;simp at hx)
 obtain ⟨cs,h4,h5⟩:=hc i x hx
 refine ⟨b,off,e,?_,trivial⟩
 have:=h4 0 (.int .i64 x) (by rw [h5];rfl)
 rwa [Nat.add_zero,show Fl.k=1 from rfl,Nat.mul_one] at this
theorem T8 (S:Nat->Prop) (v:Value) (l:List Int) (x:Int) (w:World) (hs:Sl Fl S w v l):
  Calls prog 236 #[v,x] w fun e w'=>e=.returned (.int .i64 (Vi (fun y=>decide (y=x)) l))/\w=w':=by
 obtain ⟨p,cap,rfl,hl⟩:=hs.len
 have HS:=Qq hs
 clear hs
 obtain ⟨n,I⟩:=eX (l.length)
 rw [I] at HS hl;rw [I]
 have HN:=Qq I
 clear I
 go_enter func236,ntmps236
 go_wp2_with fail
 go_loop [8] (fun i=>∃ k:Nat,k<=n/\i=.int .i64 k/\Aside (∀ (j:Nat) (y:Int),j<k->l[j]?=some y->decide (y=x)=false)) (fun i=>n - (intOf i).toNat)
 case atStart=>exact ⟨0,Q8 _,rfl,fun j _ hj=>absurd hj (Z6 _)⟩
 obtain ⟨k,hk,rfl,A⟩:=hrel
 by_cases hlt:k<n
 ·have T:(0:Int)<=(k:Int):=Qvu
  have U:(k:Int)<(n:Int):=Qvu
  obtain ⟨y,D⟩:∃ y,l[k]?=some y:=⟨_,Qx (by rw [HN.out];exact hlt)⟩
  obtain ⟨b,off,rfl,hc,-⟩:=HS.out.int D
  have HY:=Qq D
  clear D
  by_cases he:y=x
  ·have hq:(x==y)=true:=by rw [he];simp
   have M:decide (x=y)=true:=by rw [he];simp
   have J:=Qq he
   clear he
   go_wp2_with fail
   go_ret
   refine ⟨?_,rfl⟩
   rw [Kh HY.out (by rw [J.out];simp) A.out]
   rfl
  have hq:(x==y)=false:=by rw [<- Qt,beq_iff_eq];exact fun e=>he e.symm
  have M:decide (x=y)=false:=by simpa using fun e=>he e.symm
  have J:=Qq he
  clear he
  go_wp2_with fail
  go_round
  case measure=>simp [intOf];omega
  case rel=>
   refine ⟨k+1,Qvu,by go_num,(show Aside _ from fun j z hj N=>?_)⟩
   by_cases e:j=k
   ·subst e
    have:=HY.out
    rw [this] at N
    cases N
    simpa using J.out
   exact A.out j z Qvu N
 have O:¬ (k:Int)<(n:Int):=Qvu
 have:k=n:=Qvu
 subst this
 go_wp2_with fail
 go_ret
 refine ⟨?_,rfl⟩
 rw [Ue (fun j y D=>A.out j y (by have:=(Qj D).1;have:=HN.out;omega) D)]
 rfl
theorem Wv (S:Nat->Prop) (v:Value) (l:List Int) (x:Int) (w:World) (hs:Sl Fl S w v l):
  Calls prog 185 #[v,x] w fun e w'=>e=.returned (.bool (l.any fun y=>decide (y=x)))/\w=w':=by
 rw [<- Et]
 have HI:=Qq (fun W=>T8 S v l x W)
 have HS:=Qq hs
 clear hs
 generalize Vi _ l=i at HI |-
 go_enter func185,ntmps185
 go_wp2_with (go_at_call 236;refine (HI.out _ HS.out).mono ?_;rintro e w' ⟨rfl,rfl⟩)
 go_ret
 exact ⟨rfl,rfl⟩
def On (e:Ex):Prop:=∀ (S:Nat->Prop) (cs:List Value) (w:World),Y1 S w cs e ->
 Calls prog 122 #[cs] w fun r w'=>r=.returned (.bool (Vu e))/\Below w w w'
theorem Qzy (S:Nat->Prop) (kids:List Ex) (ih:∀ x ∈ kids,On x) (w:World):Ui prog 187 #[] Vw S kids (fun e=>!Vu e) w:=by
 intro W x cs hb hx D
 have HI:=Qq (fun W' (h':Below W W W')=>ih x hx S cs W' (Vw.frame D (.of_below h')))
 obtain ⟨k,s1,n,s2,p1,n1,c1,p2,n2,c2,p3,n3,c3,a,z,A⟩:=Y1.cells (show Y1 S W cs x from D)
 subst A
 show Calls prog 187 #[.agg (Qxh k s1 n s2 p1 n1 c1 p2 n2 c2 p3 n3 c3 a z)] W (fun e w'=>e=.returned (.bool (!Vu x))/\Below W W w')
 generalize Vu x=b at HI |-
 clear hb hx D ih
 go_enter func187,ntmps187
 go_wp2_with (go_at_call 122;refine (HI.out _ (Ze _ _)).mono ?_;rintro e w' ⟨rfl,hw⟩)
 go_ret
 exact ⟨rfl,(Ze _ _).thn hw⟩
theorem sl_ints4 (w:World) (a b c d:Int) (g:Nat) (E:TypeId) (h:w.heap[g]?=some (.cells #[a,b,c,d] E (0,0))):Sl Fl (fun _=>True) w (.slice (some ⟨g,0,none⟩) 4 4) [a,b,c,d]:=by
 refine Sl.of_css (r:=Fl) (xs:=[a,b,c,d]) (css:=[[.int .i64 a],[b],[c],[d]]) Qxz ?_ trivial (Z8 h) (fun j u hu=>?_)
 ·exact (Cs.one (r:=Fl) rfl).app ((Cs.one (r:=Fl) rfl).app ((Cs.one (r:=Fl) rfl).app (Cs.one (r:=Fl) rfl)))
 rw [Nat.zero_add,Qk _ _ _ _ _ _ h]
 simpa using hu
theorem Qqf (k:Int) (nm:Bs) (n:Int) (s:Bs) (names binds:List Bs) (kids:List Ex) (a z:Int) (ih:∀ x ∈ kids,On x):On (.mk k nm n s names binds kids a z):=by
 intro S cs w h
 obtain ⟨nv,bv,kv,rfl,hm,hs,hn,hb,I⟩:=Yd.1 h
 obtain ⟨np,nc,rfl,_⟩:=hn.len
 obtain ⟨bp,bc,rfl,_⟩:=hb.len
 obtain ⟨kp,kc,rfl,M⟩:=I.len
 have HC:=Qq (fun W (hb:Below w w W)=>Co Tryz.cfExpr Vw isAgg59 sizeOf59 187 #[] (enters_of func187 Qxx rfl) S (.slice kp kids.length kc) kids W (fun e=>!Vu e) (I.below hb) (Qzy S kids ih W))
 have D:=Qq (fun W g (h:W.heap[g]?=some (.cells #[.int .i64 4,.int .i64 10,.int .i64 15,.int .i64 16] 3 (0,0)))=>Wv _ (.slice (some ⟨g,0,none⟩) 4 4) [4,10,15,16] k W (sl_ints4 W 4 10 15 16 g _ h))
 have hF:Vu (.mk k nm n s names binds kids a z)=(!([4,10,15,16].any fun y=>decide (y=k))&&!(kids.any fun e=>!Vu e)):=by rw [Vu,G6]
 rw [hF]
 obtain ⟨q,J⟩:=eX (([4,10,15,16].any fun y=>decide (y=k)))
 obtain ⟨q2,A⟩:=eX ((kids.any fun e=>!Vu e))
 rw [J] at D
 rw [A] at HC
 rw [J,A]
 clear hF J A h hn hb I ih
 unfold sv
 cases q
 ·rw [Bool.not_false,Bool.true_and]
  go_enter func122,ntmps122
  go_wp2_with fail
  refine (D.out _ (w+1) (Q6 _ _ _)).mono ?_
  rintro e w1 ⟨rfl,rfl⟩
  go_wp2_with (go_at_call 186;refine (HC.out _ (Zu _ _ _)).mono ?_;rintro e w' ⟨rfl,hw⟩)
  go_ret
  exact ⟨rfl,(Zu _ _ _).thn hw⟩
 go_enter func122,ntmps122
 go_wp2_with fail
 refine (D.out _ (w+1) (Q6 _ _ _)).mono ?_
 rintro e w1 ⟨rfl,rfl⟩
 go_wp2_with fail
 go_ret
 exact ⟨rfl,Zu _ _ _⟩
theorem simpAt:∀ x:Ex,On x
 | .mk k nm n s names binds kids a z=>Qqf k nm n s names binds kids a z fun x _=>simpAt x
termination_by x=>SizeOf.sizeOf x
decreasing_by
 have:=List.sizeOf_lt_of_mem ‹_ ∈ kids›
 simp only [Ex.mk.sizeOf_spec]
 omega
theorem Mr {P:Program} (w:World) (t e:TypeId) (n:Nat) (cs:Array Value) (i:Nat) (v:Value) (d:TypeDesc) (ie:TypeInfo)
  (hu:P.underlying t=some (.array n e)) (he:P.underlying e=some d) (hd:d.isRow=false) (hie:P.info? e=some ie) (hsz:ie.size=1) (hi:i<n) (hv:cs[i]?=some v):
  (Instr.index t (.agg cs) (.int .i64 i)).run P w=.ok v w:=by
 have h1:(0:Int)<=i/\(i:Int)<n:=Qvu
 have ha:(isAgg e).run P w=.ok false w:=by
  unfold isAgg
  rw [Sem.run_bind,run_underlying he w]
  cases d <;> simp_all
 simp [Instr.index,asIntOf,run_underlying hu,h1,sizeOf,typeInfo,hie,hsz,part,hi,ha,hv]
theorem Mn {B:Nat} {w w':World} {b o:Nat} {cs:List Value} (h:w.rangeAt b o cs) (hb:Below B w w') (hB:b<B):w'.rangeAt b o cs:=
 fun j v hv=>(hb.cell (p:=⟨b,o+j,none⟩) hB).trans (h j v hv)
structure J7 (w:World):Prop where
 syms:w.rangeAt 6 0 (svs syms)
 kws:Vp w
theorem J7.of_below {w w':World} (h:J7 w) (hb:Below w w w'):J7 w':=⟨Mn h.syms hb (Qv w _ (h.syms 0 _ rfl)),h.kws.below hb⟩
theorem J7.drewN {w:World} (h:J7 w) (n:Nat):J7 (w.drewN n):=⟨h.syms,h.kws⟩
theorem Qzh (i:Nat) (hi:i<24) (w:World):(Instr.index 325 (.agg (svs syms).toArray) (.int .i64 i)).run prog w=.ok (sv (syms.getD i [])) w:=by
 obtain ⟨A,h1,h2⟩:∃ A,prog.info? 9=some A/\A.size=1:=by
  have:(prog.info? 9).map (·.size)=some 1:=Qxx
  exact Option.map_eq_some_iff.1 this
 refine Mr w 325 9 24 (svs syms).toArray i _ _ A underlying325 underlying9 rfl h1 h2 hi ?_
 have hl:syms.length=24:=rfl
 simp only [svs,Qf,List.getElem?_map]
 rw [Qx Qvu,Qs,Qx Qvu]
 rfl
def NoSym (l:Bs) (k:Nat):Prop:=∀ j,j<k->(syms.getD j []).isPrefixOf l=false
theorem sym_hit {l:Bs} {k:Nat} (hk:k<24) (hn:NoSym l k) (h:(syms.getD k []).isPrefixOf l=true):sym l=(syms.getD k []).length:=by
 have hl:syms.length=24:=rfl
 have:syms.find? (fun x=>x.isPrefixOf l)=some (syms.getD k []):=by
  rw [List.find?_eq_some_iff_getElem]
  refine ⟨h,k,Qvu,by simp [Qx (show k<syms.length by omega)],fun j hj=>?_⟩
  have:=hn j hj
  rw [Qs,Qx Qvu] at this
  simpa using this
 simp [sym,this]
theorem sym_miss {l:Bs} (hn:NoSym l 24):sym l=0:=by
 have hl:syms.length=24:=rfl
 have:syms.find? (fun x=>x.isPrefixOf l)=none:=by
  rw [List.find?_eq_none]
  intro x hx
  obtain ⟨j,hj,rfl⟩:=List.getElem_of_mem hx
  have:=hn j Qvu
  rw [Qs,Qx Qvu] at this
  simp only [Option.getD_some] at this
  simp [this]
 simp [sym,this]
theorem Gm (l x:Bs):Lib.hasPrefix l x=x.isPrefixOf l:=by
 first | rfl | (unfold Lib.hasPrefix;rfl)
theorem Li (s:ByteArray) (w:World) (hT:J7 w):
  Calls prog 318 #[.string s] w fun e w'=>e=.returned (.int .i64 (sym (bl s)))/\w=w':=by
 have HS:=Qq hT.syms
 clear hT
 go_enter func318,ntmps318
 go_wp2_with (refine Go.wpList_load_mid rfl 325 _ rfl 6 0 rfl (svs syms) _ HS.out underlying325 rfl Qxx ?_)
 go_loop [6] (fun i=>∃ k:Nat,k<=24/\NoSym (bl s) k/\i=.int .i64 k) (fun i=>24 - (intOf i).toNat)
 case atStart=>exact ⟨0,Qvu,fun j hj=>Qvu,rfl⟩
 obtain ⟨k,hk,D,rfl⟩:=hrel
 have M:=Qq D;clear D
 by_cases hlt:k<24
 ·have A:=Qzh k hlt
  have I:(sv (syms.getD k []))=.string ⟨(syms.getD k []).toArray⟩:=rfl
  rw [I] at A;clear I
  obtain ⟨x,O⟩:∃ x:ByteArray,(⟨(syms.getD k []).toArray⟩:ByteArray)=x:=⟨_,rfl⟩
  rw [O] at A
  have HX:=Qq O;clear O
  by_cases hp:Lib.hasPrefix (bl s) (bl x)=true
  ·go_wp2_with (go_at_call 330;refine (Tryz.strings_HasPrefix _ _ _).mono ?_;rintro e w' ⟨rfl,rfl⟩)
   go_ret
   have J:bl x=syms.getD k []:=by rw [<- HX.out]
   refine ⟨Ys ?_,rfl⟩
   rw [Gm,J] at hp
   rw [sym_hit hlt M.out hp,<- J,J4]
  have N:Lib.hasPrefix (bl s) (bl x)=false:=by simpa using hp
  clear hp
  go_wp2_with (go_at_call 330;refine (Tryz.strings_HasPrefix _ _ _).mono ?_;rintro e w' ⟨rfl,rfl⟩)
  go_round
  case rel=>
   refine ⟨k+1,Qvu,fun j hj=>?_,by go_num⟩
   have J:bl x=syms.getD k []:=by rw [<- HX.out]
   by_cases hjk:j=k
   ·subst hjk;rw [<- J,<- Gm];exact N
   exact M.out j Qvu
  case measure=>simp [intOf];omega
 obtain rfl:k=24:=Qvu
 go_wp2
 go_ret
 exact ⟨Ys (by rw [sym_miss M.out];rfl),rfl⟩
end Go.Proofs.YtlanplhphiikjaaGreatDoor
