import Derived.Test.YtcljcblceodciaaGreatDoorU05
set_option maxRecDepth 100000
set_option maxHeartbeats 400000000
namespace Go.Proofs.YtcljcblceodciaaGreatDoor
open Go.RowKit Go.Shelf Go.Lib Tryz
theorem Xm (w:World) (o p q:Obj):Below w w (((w.alloc o).alloc p).alloc q):=(Zu w o p).alloc (Zu w o p).size _
theorem Zl (w:World) (A B C:Obj):(((w.alloc A).alloc B).alloc C).heap[w.heap.size+2]?=some C:=by
 have e:((w.alloc A).alloc B).heap.size=w.heap.size+2:=Ca
 rw [← e];exact Qw _ _
def Kf (us:List Sm) (v:Val) (t:Ty) (b:Bool):Prop:=∀ (S S' S'':Nat→Prop) (cv ct:List Value) (ps:Option Addr) (ns cs:Nat) (w:World),Sl Ug S'' w (.slice ps ns cs) us→Z9 S w cv v→X5 S' w ct t →
 Calls prog 65 #[.slice ps ns cs,cv,ct] w fun e w'=>e=.returned (.bool b)∧Below w w w'
theorem X5.cells' {S:Nat→Prop} {w:World} {cs:List Value} {k n:Int} {s:Bs} {names:List Bs} {kids:List Ty} (h:X5 S w cs (.mk k s n names kids)):∃ p3 k3 p4 k4,cs=[.int .i64 k,.string ⟨s.toArray⟩,.int .i64 n,.slice p3 names.length k3,.slice p4 kids.length k4]∧Sl Zh S w (.slice p3 names.length k3) names∧Sl Jk S w (.slice p4 kids.length k4) kids:=by
 obtain ⟨nv,kv,rfl,hs,hn,hk⟩:=O9.1 h
 obtain ⟨p3,k3,rfl,_⟩:=hn.len
 obtain ⟨p4,k4,rfl,_⟩:=hk.len
 exact ⟨p3,k3,p4,k4,rfl,hn,hk⟩
theorem Sr (us:List Sm) (v:Val) (k:Int) (hk:k=0∨k=1∨k=2) (s:Bs) (n:Int) (names:List Bs) (kids:List Ty):Kf us v (.mk k s n names kids) (v.kind==k):=by
 intro S S' G cv ct ps ns cs w D hv ht
 obtain ⟨p3,k3,p4,k4,A,_⟩:=Z9.cells hv
 simp only [vcs] at A
 subst A
 obtain ⟨q3,l3,q4,l4,rfl,_⟩:=ht.cells'
 clear hv ht D
 rcases hk with rfl | rfl | rfl
 all_goals
  go_enter func65,ntmps65
  go_wp2_with fail
  go_ret
  exact ⟨rfl,Xm _ _ _ _⟩
theorem has2_any (us:List Sm) (v:Val) (t:Ty) (b:Bool) (h:Kf us v t b) (S S' S'':Nat→Prop) (cv ct:List Value) (ps:Option Addr) (ns cs:Nat) (B:Nat) (w:World) (hsm:Sl Ug S'' w (.slice ps ns cs) us) (hv:Z9 S w cv v) (ht:X5 S' w ct t) (hc:w.cell? ⟨B,0,none⟩=some (.slice ps ns cs)):
  Calls prog 121 #[cv,ct,Ch B] w fun e w'=>e=.returned (.bool b)∧Below w w w':=by
 have HH:=Qq (fun W (hb:Below w w W)=>h S S' S'' cv ct ps ns cs W (hsm.below hb) (hv.move (.of_below hb) Qje) (ht.move (.of_below hb) Qje))
 have hB:=Qv w _ hc
 obtain ⟨p3,k3,p4,k4,A,_⟩:=Z9.cells hv
 simp only [vcs] at A
 subst A
 obtain ⟨_,_,_,_,_,_,_,_,_,rfl⟩:=ht.cells
 have D:B<w.heap.size:=hB
 have G:B<w.heap.size+1:=C7
 clear hv ht h hsm
 go_enter func121,ntmps121
 go_wp2_with (go_at_call 65;refine (HH.out _ (Zu _ _ _)).mono ?_;rintro e w' ⟨rfl,hw⟩)
 go_ret
 exact ⟨rfl,(Zu _ _ _).thn hw⟩
def An (p:Val→Ty→Bool) (v:Val) (names:List Bs) (kids:List Ty):Bool:=(v.kind==4)&&eqL (fun x y=>decide (x=y)) v.names names&&eqL p v.kids kids
theorem Mg (us:List Sm) (v:Val) (s:Bs) (names:List Bs) (kids:List Ty) (p:Val→Ty→Bool) (hp:∀ x ∈ v.kids,∀ y ∈ kids,Kf us x y (p x y)):Kf us v (.mk 5 s 0 names kids) (An p v names kids):=by
 intro S0 aI aH cv ct ps ns cs w A Y T
 have O:Sl Ug (fun b=>b<w) w (.slice ps ns cs) us:=A.mono (fun b hb _=>hb)
 have hv:Z9 (fun b=>b<w) w cv v:=Y.move (.refl _ _) (fun b hb _=>hb)
 have ht:X5 (fun b=>b<w) w ct (.mk 5 s 0 names kids):=T.move (.refl _ _) (fun b hb _=>hb)
 clear Y T A
 obtain ⟨p3,k3,p4,k4,N,aA,Z,_⟩:=Z9.cells hv
 simp only [vcs] at N
 subst N
 obtain ⟨q3,l3,q4,l4,rfl,V,U⟩:=ht.cells'
 have HN:=Qq (fun W (hb:Below w w W)=>Ay _ _ _ v.names names W (aA.below hb) (V.below hb))
 have HE:=Qq (fun W (hb:Below w w W) (hc:W.cell? ⟨w,0,none⟩=some (.slice ps ns cs))=>eqFValTy 121 #[Ch w] (enters_of func121 Cd rfl) _ _ _ v.kids kids W (Z.below hb) (U.below hb) p
  (fun W' x y cx cy M hx hy h1 h2=>has2_any us x y _ (hp x hx y hy) _ _ _ cx cy ps ns cs w W' ((O.below hb).below M) h1 h2 (kD M (Qv W _ hc) hc)))
 have hR:An p v names kids=((v.kind==4)&&eqL (fun x y=>decide (x=y)) v.names names&&eqL p v.kids kids):=rfl
 rw [hR]
 generalize eqL (fun (x y:Bs)=>decide (x=y)) v.names names=bn at HN ⊢
 generalize eqL p v.kids kids=bk at HE ⊢
 clear hv ht aA Z V U hp hR O
 by_cases h4:v.kind=4
 ·rw [h4]
  have hq:((4:Int)==4)=true:=rfl
  rw [hq]
  go_enter func65,ntmps65
  go_wp2_with fail
  refine (HN.out _ (Xm _ _ _ _)).mono ?_
  rintro e w1 ⟨rfl,D⟩
  have G:=(D.block w (by simp;omega)).trans ((Below.heap_alloc _ _ _ (by simp;omega)).trans (Q5 w _ _))
  have I:=(D.block (w+1) Ca).trans ((Below.heap_alloc _ _ _ Ca).trans (Q6 w _ _))
  have J:=(D.block (w+2) Ca).trans (Zl w _ _ _)
  have c0:=rA0 G;have c4:=rA4 I;have d4:=rA4 J
  have HW:=Qq ((Xm w _ _ _).thn D)
  have aB:=Qq c0
  clear D G I J
  cases bn with
  | false=>
   go_wp2_with fail
   go_ret
   exact ⟨rfl,HW.out⟩
  | true=>
   go_wp2_with (go_at_call 120;refine (HE.out _ HW.out aB.out).mono ?_;rintro e w' ⟨rfl,D⟩;have aD:=Qq (HW.out.thn D);clear D)
   go_ret
   exact ⟨rfl,aD.out⟩
 have hq:(v.kind==4)=false:=by simpa using h4
 rw [hq]
 clear h4
 go_enter func65,ntmps65
 go_wp2_with fail
 go_ret
 exact ⟨rfl,Xm _ _ _ _⟩
theorem Tq (us:List Sm) (v:Val) (t:Ty) (b:Bool) (hg:Y4 v) (h:Kf us v t b) (S S' S'':Nat→Prop) (cv ct:List Value) (ps:Option Addr) (ns cs:Nat) (w:World) (hsm:Sl Ug S'' w (.slice ps ns cs) us) (hv:Z9 S w cv v) (ht:X5 S' w ct t) (hT:Xh w):
  Calls prog 17 #[.slice ps ns cs,cv,ct] w fun e w'=>e=.returned (.bool b)∧Below w w w':=by
 have HV:=Qq (fun W (hb:Below w w W)=>Ae v hg S cv W (hv.move (.of_below hb) Qje) (hT.below hb))
 have HH:=Qq (fun W (hb:Below w w W)=>h S S' S'' cv ct ps ns cs W (hsm.below hb) (hv.move (.of_below hb) Qje) (ht.move (.of_below hb) Qje))
 obtain ⟨p3,k3,p4,k4,I,_⟩:=Z9.cells hv
 simp only [vcs] at I
 subst I
 obtain ⟨y1,y2,y3,y4,y5,y6,y7,y8,y9,rfl⟩:=ht.cells
 clear hv ht h hg hT hsm
 go_enter func17,ntmps17
 go_wp2_with fail
 refine (HV.out _ (Zu _ _ _)).mono ?_
 rintro e w1 ⟨rfl,G⟩
 have A:=(G.block w (by simp;omega)).trans (Q5 w _ _)
 have D:=(G.block (w+1) Ca).trans (Q6 w _ _)
 have c0:=rA0 A;have c1:=rA1 A;have c2:=rA2 A;have c3:=rA3 A;have c4:=rA4 A;have d0:=rA0 D;have d1:=rA1 D;have d2:=rA2 D;have d3:=rA3 D;have d4:=rA4 D
 have HW:=Qq ((Zu w _ _).thn G)
 clear G A D
 go_wp2_with (go_at_call 65;refine (HH.out _ HW.out).mono ?_;rintro e w' ⟨rfl,G⟩)
 go_ret
 exact ⟨rfl,HW.out.thn G⟩
def Va:Rd UInt8 where
 k:=1
 R _ _ cs x:=cs=[.int .u8 x.toNat]
 len h:=by rw [h];rfl
 frame h _:=h
 mono h _:=h
theorem Ni:∀ S w cs x,Va.R S w cs x→∀ u ∈ cs,u.oneCell'=true:=by
 intro S w cs x h u A
 rw [show cs=[.int .u8 x.toNat] from h] at A
 simp only [Z3,Z2,or_false] at A
 subst A;rfl
def vb (n:Nat):Bs:=if h:n<128 then [UInt8.ofNat n] else UInt8.ofNat (n % 128+128)::vb (n / 128)
termination_by n
decreasing_by omega
theorem Bz {n:Nat} (h:n<128):vb n=[UInt8.ofNat n]:=by unfold vb;rw [dif_pos h]
theorem L5 {n:Nat} (h:¬ n<128):vb n=UInt8.ofNat (n % 128+128)::vb (n / 128):=by rw [vb,dif_neg h]
theorem vb_len:∀ (k n:Nat),n<128 ^ (k+1)→(vb n).length≤k+1
 | 0,n,h=>by rw [Bz (by simpa using h)];simp
 | k+1,n,h=>by
  by_cases hn:n<128
  ·rw [Bz hn];simp
  rw [L5 hn,List.length_cons]
  have:n / 128<128 ^ (k+1):=by
   rw [Nat.div_lt_iff_lt_mul C7]
   rw [Nat.pow_succ] at h
   omega
  have:=vb_len k (n / 128) this
  omega
theorem M2 {n:Nat} (h:n<18446744073709551616):(vb n).length≤10:=vb_len 9 n C7
structure WAt (g:Nat) (w:World) (v:Value) (bs:Bs):Prop where
 cell:w.heap[g]?=some (.cells #[v] 156 (0,0))
 own:∃ css,Own Va 5 (fun _=>False) (g+1) w v bs css
structure Jv (g:Nat) (w:World) (v:Value) (w':World) (v':Value):Prop where
 below:Below g w w'
 size:w≤w'.heap.size
 keep:∀ b,b<w.heap.size→b≠g→some b≠v.ownBlock→w'.heap[b]?=w.heap[b]?
 at':v'.ownBlock=v.ownBlock∨∃ k,v'.ownBlock=some k∧w.heap.size≤k
theorem Jv.refl (g:Nat) (w:World) (v:Value):Jv g w v w v:=⟨Qz _ _,Q9 _,fun _ _ _ _=>rfl,.inl rfl⟩
theorem Jv.trans {g:Nat} {a b c:World} {u v x:Value} (h:Jv g a u b v) (k:Jv g b v c x):Jv g a u c x:=by
 refine ⟨h.below.trans k.below,Qc h.size k.size,fun i hi hg hu=>?_,?_⟩
 ·rw [k.keep i (Qa hi h.size) hg (fun e=>?_),h.keep i hi hg hu]
  rcases h.at' with e2 | ⟨q,e2,hq⟩
  ·exact hu (e.trans e2)
  rw [e2] at e;have:=Qb e;omega
 rcases k.at' with e | ⟨q,e,hq⟩
 ·rcases h.at' with e2 | ⟨q2,e2,hq2⟩
  ·exact .inl (e.trans e2)
  exact .inr ⟨q2,e.trans e2,hq2⟩
 exact .inr ⟨q,e,Qc h.size hq⟩
theorem WAt.below {g:Nat} {w w':World} {v:Value} {bs:Bs} (h:WAt g w v bs) (hb:Below w w w'):WAt g w' v bs:=by
 obtain ⟨css,ho⟩:=h.own
 exact ⟨kB hb h.cell,css,ho.below hb⟩
theorem Jv.of_below {g:Nat} {w w':World} {v:Value} (hb:Below w w w') (hg:g≤w):Jv g w v w' v:=⟨hb.mono hg,hb.size,fun b A _ _=>hb.block b A,.inl rfl⟩
theorem or128 (m:Nat):bits BinOp.or IntKind.u8 ((m:Int) % 256) 128=((UInt8.ofNat (m % 128+128)).toNat:Int):=by
 have h:∀ r,r<256→bits BinOp.or IntKind.u8 ((r:Nat):Int) 128=((r % 128+128:Nat):Int):=Cc
 have e:(m:Int) % 256=((m % 256:Nat):Int):=C7
 rw [e,h (m % 256) (Nat.mod_lt _ C7)]
 rw [show (UInt8.ofNat (m % 128+128)).toNat=m % 128+128 from by rw [UInt8.toNat_ofNat'];omega]
 omega
theorem low128 (m:Nat) (h:m<128):(m:Int)=((UInt8.ofNat m).toNat:Int):=by
 rw [show (UInt8.ofNat m).toNat=m from by rw [UInt8.toNat_ofNat'];omega]
def Lt (g:Nat) (w:World) (v:Value) (bs:Bs) (e:Ending) (w':World):Prop:=e=.returned (.tuple #[])∧∃ v',WAt g w' v' bs∧Jv g w v w' v'
theorem uint_any (g:Nat) (w:World) (v:Value) (bs:Bs) (n:Nat) (h:WAt g w v bs) (hn:n<18446744073709551616) (hl:bs.length≤100000):
  Calls prog 182 #[Ch g,.int .u64 n] w (Lt g w v (bs++vb n)):=by
 have H:=Qq h
 obtain ⟨i5,j1,j2,j3,j4⟩:=Y7 (P:=prog) (t:=5) (z:=.int .u8 0) (n:=1) (b:=1) Cd
 obtain ⟨HJ,aB,aC,aD⟩:=Qjz j1 j2 j3 j4
 clear h j1 j2 j3 j4
 go_enter func182,ntmps182
 go_wp2_with fail
 go_loopw [1] (fun s wr=>∃ (m:Nat) (cs:Bs) (u:Value),s=.int .u64 m∧m≤n∧Aside (cs++vb m=bs++vb n)∧WAt g wr u cs∧Jv g w v wr u) (fun s _=>(intOf s).toNat)
 case atStart=>exact ⟨n,bs,v,rfl,Q9 _,rfl,H.out,Jv.refl _ _ _⟩
 obtain ⟨m,cs,u,rfl,aQ,hE,hA,hS⟩:=hrel
 have c0:=Qk _ _ 0 _ _ _ hA.cell;have f0:=fA 0 hA.cell
 simp only [Qf,Qg] at c0
 obtain ⟨css,hO⟩:=hA.own
 obtain ⟨up,T,rfl⟩:∃ p cap,u=.slice p cs.length cap:=by
  rcases hO.row.2 with ⟨rfl,h0⟩ | ⟨q,cap,aO,rfl,_⟩
  ·exact ⟨none,0,by rw [h0]⟩
  exact ⟨_,_,rfl⟩
 have O:=Z8 hA.cell
 have aP:cs.length≤100010:=by
  have h1:=congrArg List.length hE.out
  rw [Ql,Ql] at h1
  have:=M2 hn
  omega
 obtain ⟨HA,HS,HO,HE⟩:=Qjz hA.cell hS hO hE.out
 clear hA hS hO hE
 by_cases hlt:m<128
 ·have aM:(m:Int)<128:=C7
  have hb:=low128 m hlt
  obtain ⟨c,Y⟩:=eX (UInt8.ofNat m)
  rw [Y] at hb
  have HC:=Qq Y;have aG:=Qq hb
  clear Y hb
  go_wp2_with (at_builtin;refine Yg (r:=Va) Cc rfl (.tmp 24) (.tmp 27) _ rfl 5 i5 (.int .u8 0) 1 underlying124 HJ.out aB.out aC.out aD.out rfl C7 (fun _=>False) (g+1) wr (.slice up cs.length T) cs css [.int .u8 m] c rfl HO.out rfl (by show _=_;rw [aG.out]) (by simp [Value.oneCell']) cs.length rfl C7 C7 ?_;intro p5 N J w5 M G;have I:=Qq M;have A:=Qq G;have D:=(G.other g O (fun e=>by have:=(HO.out.row.lt g e.symm).1;omega)).trans HA.out;have aJ:=fA 0 D;have aI:=rA0 D;have U:=Qq D;clear M G D)
  go_end0
  have aN:bs++vb n=cs++[c]:=by rw [← HE.out,Bz hlt,HC.out]
  rw [aN]
  refine ⟨rfl,_,⟨by rw [Qi _ _ _ _ _ _ U.out];rfl,J,I.out.move (Q9 _) (fun b _ h=>Za ?_)⟩,HS.out.trans ⟨(A.out.below.mono (Nat.le_succ g)).setCell (p:=⟨g,0,none⟩) (Q9 _) _,by simp [World.setCell];exact A.out.size,fun b hb V Z=>?_,A.out.at'⟩⟩
  ·rcases h with h | h
   ·exact h.elim
   have:=(I.out.row.lt b h).1
   show b≠g
   omega
  rw [Za V,A.out.other b hb Z]
 have aM:(128:Int)≤(m:Int):=C7
 have hb:=or128 m
 obtain ⟨c,Y⟩:=eX (UInt8.ofNat (m % 128+128))
 rw [Y] at hb
 have HC:=Qq Y
 clear Y
 go_wp2_with (at_builtin;refine Yg (r:=Va) Cc rfl (.tmp 12) (.tmp 16) _ rfl 5 i5 (.int .u8 0) 1 underlying124 HJ.out aB.out aC.out aD.out rfl C7 (fun _=>False) (g+1) wr (.slice up cs.length T) cs css [.int .u8 c.toNat] c rfl HO.out rfl rfl (by simp [Value.oneCell']) cs.length rfl C7 C7 ?_;intro p5 N J w5 M G;have I:=Qq M;have A:=Qq G;have D:=(G.other g O (fun e=>by have:=(HO.out.row.lt g e.symm).1;omega)).trans HA.out;have aJ:=fA 0 D;have aI:=rA0 D;have U:=Qq D;clear M G D)
 go_roundw
 case measure=>simp only [intOf];omega
 case rel=>
  refine ⟨m / 128,cs++[c],.slice p5 (cs.length+1) N,by go_num,C7,(show Aside _ from ?_),⟨by rw [Qi _ _ _ _ _ _ U.out];rfl,J,I.out.move (Q9 _) (fun b _ h=>Za ?_)⟩,HS.out.trans ⟨(A.out.below.mono (Nat.le_succ g)).setCell (p:=⟨g,0,none⟩) (Q9 _) _,by simp [World.setCell];exact A.out.size,fun b hb V Z=>?_,A.out.at'⟩⟩
  ·have h1:=HE.out
   rw [L5 hlt,HC.out] at h1
   have h2:cs++[c]++vb (m / 128)=bs++vb n:=by rw [← h1];simp
   exact h2
  ·rcases h with h | h
   ·exact h.elim
   have:=(I.out.row.lt b h).1
   show b≠g
   omega
  rw [Za V,A.out.other b hb Z]
def zz (n:Int):Nat:=if 0≤n then (2*n).toNat else (-2*n - 1).toNat
theorem xor_zero (x:Int) (h0:0≤x) (h1:x<18446744073709551616):bits BinOp.xor IntKind.u64 x 0=x:=by
 show IntKind.u64.wrap ((BitVec.ofInt 64 x ^^^ BitVec.ofInt 64 0).toNat:Int)=x
 have e:BitVec.ofInt 64 0=0#64:=Cc
 rw [e,BitVec.xor_zero,IntKind.wrap_u64,BitVec.toNat_ofInt]
 omega
theorem xor_ones (x:Int) (h0:0≤x) (h1:x<18446744073709551616):bits BinOp.xor IntKind.u64 x 18446744073709551615=18446744073709551615 - x:=by
 show IntKind.u64.wrap ((BitVec.ofInt 64 x ^^^ BitVec.ofInt 64 18446744073709551615).toNat:Int)=_
 have e:BitVec.ofInt 64 18446744073709551615=BitVec.allOnes 64:=Cc
 rw [e,BitVec.xor_allOnes,BitVec.toNat_not,IntKind.wrap_u64,BitVec.toNat_ofInt]
 omega
theorem zig_any (n:Int) (h0:-2305843009213693952≤n) (h1:n<2305843009213693952) (w:World):Calls prog 196 #[n] w fun e w'=>e=.returned (.int .u64 (zz n))∧w=w':=by
 by_cases h:0≤n
 ·have A:bits BinOp.xor IntKind.u64 (n*2) (n / 9223372036854775808)=(zz n:Nat):=by
   rw [show n / 9223372036854775808=0 by omega,xor_zero _ C7 C7]
   unfold zz;rw [if_pos h];omega
  have D:=Qq A
  clear A
  go_enter func196,ntmps196
  go_wp2_with fail
  go_ret
  exact ⟨Jt D.out,rfl⟩
 have h':n<0:=C7
 have A:bits BinOp.xor IntKind.u64 (IntKind.u64.wrap (IntKind.u64.wrap n*2)) (IntKind.u64.wrap (n / 9223372036854775808))=(zz n:Nat):=by
  rw [IntKind.wrap_u64,IntKind.wrap_u64,IntKind.wrap_u64,show n / 9223372036854775808 % 18446744073709551616=18446744073709551615 by omega,xor_ones _ C7 C7]
  unfold zz;rw [if_neg h];omega
 have D:=Qq A
 clear A h
 go_enter func196,ntmps196
 go_wp2_with fail
 go_ret
 exact ⟨Jt D.out,rfl⟩
theorem Tw {n:Int} (h0:-2305843009213693952≤n) (h1:n<2305843009213693952):zz n<18446744073709551616:=by unfold zz;split <;> omega
theorem zz_inj {a b:Int} (h:zz a=zz b):a=b:=by unfold zz at h;split at h <;> split at h <;> omega
theorem vb_inj:∀ (n a b:Nat) (x y:Bs),a≤n→vb a++x=vb b++y→a=b∧x=y
 | n,a,b,x,y,hn,h=>by
  by_cases ha:a<128
  ·by_cases hb:b<128
   ·rw [Bz ha,Bz hb] at h
    simp only [List.cons_append,List.nil_append,List.cons.injEq] at h
    have h1:=congrArg UInt8.toNat h.1
    rw [UInt8.toNat_ofNat',UInt8.toNat_ofNat'] at h1
    exact ⟨C7,h.2⟩
   rw [Bz ha,L5 hb] at h
   simp only [List.cons_append,List.nil_append,List.cons.injEq] at h
   have h1:=congrArg UInt8.toNat h.1
   rw [UInt8.toNat_ofNat',UInt8.toNat_ofNat'] at h1
   omega
  by_cases hb:b<128
  ·rw [L5 ha,Bz hb] at h
   simp only [List.cons_append,List.nil_append,List.cons.injEq] at h
   have h1:=congrArg UInt8.toNat h.1
   rw [UInt8.toNat_ofNat',UInt8.toNat_ofNat'] at h1
   omega
  rw [L5 ha,L5 hb] at h
  simp only [List.cons_append,List.cons.injEq] at h
  have h1:=congrArg UInt8.toNat h.1
  rw [UInt8.toNat_ofNat',UInt8.toNat_ofNat'] at h1
  cases n with
  | zero=>omega
  | succ n=>
   obtain ⟨h2,h3⟩:=vb_inj n (a / 128) (b / 128) x y C7 h.2
   exact ⟨C7,h3⟩
theorem S9 (g:Nat) (w:World) (v:Value) (bs:Bs) (n:Int) (h:WAt g w v bs) (h0:-2305843009213693952≤n) (h1:n<2305843009213693952) (hl:bs.length≤100000):
  Calls prog 181 #[Ch g,n] w (Lt g w v (bs++vb (zz n))):=by
 have HZ:=Qq (zig_any n h0 h1 w)
 have A:=Qq (uint_any g w v bs (zz n) h (Tw h0 h1) hl)
 clear h h0 h1 hl
 generalize zz n=m at HZ A ⊢
 generalize D:bs++vb m=b2 at A ⊢
 clear D
 go_enter func181,ntmps181
 go_wp2_with (first | (go_at_call 196;refine HZ.out.mono ?_;rintro e w' ⟨rfl,rfl⟩) | (go_at_call 182;refine A.out.mono ?_;rintro e w' ⟨rfl,hw⟩))
 go_end0
 exact ⟨rfl,hw⟩
theorem Wu (g:Nat) (w:World) (v:Value) (bs:Bs) (a n:Int) (b:Nat) (hA:WAt g w v bs) (h0:-2305843009213693952≤n) (h1:n<2305843009213693952) (a0:-2305843009213693952≤a) (a1:a<2305843009213693952) (hl:bs.length≤10000)
  (hb:w.heap[b]?=some (.cells #[a,n] 3 (0,0))) (hbg:b≠g) (hbv:v.ownBlock≠some b):
  Calls prog 165 #[Ch g,Cg b 0 2 2] w (Lt g w v (bs++vb (zz a)++vb (zz n))):=by
 obtain ⟨HA,HB,HV,H0,H1,Z,aA⟩:=Qjx hA hb hbv h0 h1 a0 a1
 have aG:=M2 (Tw a0 a1)
 clear hA hb hbv h0 h1 a0 a1
 go_enter func165,ntmps165
 go_wp2_with fail
 go_loopw [8] (fun i wr=>∃ (k:Nat) (cs:Bs) (u:Value),k≤2∧i=.int .i64 k∧Aside (k=0→cs=bs)∧Aside (k=1→cs=bs++vb (zz a))∧Aside (k=2→cs=bs++vb (zz a)++vb (zz n))∧WAt g wr u cs∧Jv g w v wr u) (fun i _=>2 - (intOf i).toNat)
 case atStart=>exact ⟨0,bs,v,C7,rfl,fun _=>rfl,fun h=>C7,fun h=>C7,HA.out,Jv.refl _ _ _⟩
 obtain ⟨k,cs,u,hk,rfl,U,V,Y,hA,hS⟩:=hrel
 have T:wr.heap[b]?=some (.cells #[a,n] 3 (0,0)):=by
  rw [hS.keep b (Z8 HB.out) hbg (fun e=>HV.out e.symm)];exact HB.out
 obtain ⟨c0,c1⟩:=row2 T
 have HS:=Qq hS
 clear T hS
 match k,hk with
 | 0,_=>
  have A:cs=bs:=U.out rfl
  subst A
  have O:=Qq (S9 g wr u cs a hA Z.out aA.out C7)
  clear U V Y hA
  generalize D:cs++vb (zz a)=b2 at O
  have M:=Qq D
  clear D
  rw [show ((0:Nat):Int)=0 from rfl]
  go_wp2_with (go_at_call 181;refine O.out.mono ?_;rintro e w' ⟨rfl,v',G,I⟩;have J:=Qq G;have N:=Qq I;clear G I)
  go_roundw
  case measure=>simp [intOf]
  case rel=>exact ⟨1,b2,v',C7,rfl,fun h=>C7,fun _=>(by first | exact M.out.symm | rfl),fun h=>C7,J.out,HS.out.trans N.out⟩
 | 1,_=>
  have A:cs=bs++vb (zz a):=V.out rfl
  have O:=Qq (S9 g wr u cs n hA H0.out H1.out (by rw [A,Ql];omega))
  clear U V Y hA
  generalize D:cs++vb (zz n)=b2 at O
  rw [A] at D
  have M:=Qq D
  clear D A
  rw [show ((1:Nat):Int)=1 from rfl]
  go_wp2_with (go_at_call 181;refine O.out.mono ?_;rintro e w' ⟨rfl,v',G,I⟩;have J:=Qq G;have N:=Qq I;clear G I)
  go_roundw
  case measure=>simp [intOf]
  case rel=>exact ⟨2,b2,v',C7,rfl,fun h=>C7,fun h=>C7,fun _=>(by first | exact M.out.symm | rfl),J.out,HS.out.trans N.out⟩
 | 2,_=>
  have A:cs=bs++vb (zz a)++vb (zz n):=Y.out rfl
  have aC:=Qq A
  have aB:=Qq hA
  clear U V Y hA A
  rw [show ((2:Nat):Int)=2 from rfl]
  go_wp2_with fail
  go_end0
  exact ⟨rfl,u,by rw [← aC.out];exact aB.out,HS.out⟩
def Kj (n:Int):Bs:=vb (zz 0)++vb (zz n)
theorem encI_inj {a b:Int} (h:Kj a=Kj b):a=b:=by
 unfold Kj at h
 have h1:=List.append_cancel_left h
 have:=vb_inj (zz a) (zz a) (zz b) [] [] (Q9 _) (by simpa using h1)
 exact zz_inj this.1
theorem O4 {n:Int} (h0:-2305843009213693952≤n) (h1:n<2305843009213693952):(Kj n).length≤20:=by
 have a:=M2 (Tw (n:=0) C7 C7)
 have b:=M2 (Tw h0 h1)
 unfold Kj;rw [Ql];omega
theorem C2 (g:Nat) (w:World) (v:Value) (n:Int) (s:ByteArray) (p3:Option Addr) (l3 k3:Nat) (p4:Option Addr) (k4:Nat) (hA:WAt g w v []) (h0:-2305843009213693952≤n) (h1:n<2305843009213693952):
  Calls prog 134 #[Ch g,.agg #[Ci,n,.string s,.slice p3 l3 k3,.slice p4 0 k4]] w (Lt g w v (Kj n)):=by
 have hg:=Z8 hA.cell
 have G:∀ b,v.ownBlock=some b→b<w.heap.size:=fun b hb=>by
  obtain ⟨_,ho⟩:=hA.own
  exact (ho.row.lt b hb).2
 obtain ⟨HA,D,H0,H1⟩:=Qjz hA G h0 h1
 clear hA G h0 h1
 go_enter func134,ntmps134
 go_wp2_with fail
 have A:Below w w ((w.alloc (.cells #[Ci,n,.string s,.slice p3 l3 k3,.slice p4 0 k4] 36)).alloc (.cells #[Ci,n] 3)):=Zu _ _ _
 have U:=Q5 w (.cells #[Ci,n,.string s,.slice p3 l3 k3,.slice p4 0 k4] 36) (.cells #[Ci,n] 3)
 have V:=Q6 w (.cells #[Ci,n,.string s,.slice p3 l3 k3,.slice p4 0 k4] 36) (.cells #[Ci,n] 3)
 generalize (w.alloc (.cells #[Ci,n,.string s,.slice p3 l3 k3,.slice p4 0 k4] 36)).alloc (.cells #[Ci,n] 3)=W1 at A U V ⊢
 have hi:=Wu g W1 v [] 0 n (w+1) (HA.out.below A) H0.out H1.out C7 C7 Ca V C7 (fun e=>by have:=D.out _ e;omega)
 obtain ⟨HI,O,HX⟩:=Qjq hi A U
 clear hi A U V
 rw [List.nil_append,show vb (zz 0)++vb (zz n)=Kj n from rfl] at HI
 refine HI.out.mono ?_
 rintro e w2 ⟨rfl,v2,J,I⟩
 have M:=(I.keep w (Z8 HX.out) C7 (fun e=>by have:=D.out _ e.symm;omega)).trans HX.out
 have c4:=rA4 M
 have N:=Qq J;have T:=Qq ((Jv.of_below (v:=v) O.out C7:Jv g w v W1 v).trans I)
 clear J I M
 go_wp2_with fail
 go_loop [57] (fun i=>i=.int .i64 0) (fun _=>0)
 case atStart=>exact rfl
 subst hrel
 go_wp2_with fail
 go_end0
 exact ⟨rfl,v2,N.out,T.out⟩
theorem To (S:Nat→Prop) (v:Value) (xs:List UInt8) (w:World) (hs:Sl Va S w v xs):Calls prog 167 #[v] w (Jy Va 5 S w xs):=by
 obtain ⟨i0,h1,h2,h3,h4⟩:=Y7 (P:=prog) (t:=5) (z:=.int .u8 0) (n:=1) (b:=1) Cd
 exact Dv Tryz.clByte Va Cc 1 i0 _ h1 h2 h3 h4 rfl sizeOf5 C7 Ni S v xs w hs
theorem done_any (g:Nat) (w:World) (v:Value) (bs:Bs) (hA:WAt g w v bs) (hl:bs.length≤1000000):
  Calls prog 135 #[Ch g] w (Jy Va 5 (fun _=>True) w bs):=by
 obtain ⟨css,hO⟩:=hA.own
 have A:Sl Va (fun _=>True) w v bs:=hO.sl hl (fun _ _=>trivial) (fun _ _ _=>trivial)
 have HC:=Qq (To _ v bs w A)
 obtain ⟨p,cap,rfl,_⟩:=A.len
 have c0:=rA0 hA.cell
 clear hA hO A
 go_enter func135,ntmps135
 go_wp2_with (go_at_call 167;refine HC.out.mono ?_;rintro e w' ⟨q,qc,qs,rfl,D,G⟩;have J:=Qq D;have I:=Qq G;clear D G)
 go_ret
 exact ⟨q,qc,qs,rfl,J.out,I.out⟩
theorem Ra (S:Nat→Prop) (n:Int) (s:Bs) (names:List Bs) (cs:List Value) (w:World) (h:Z9 S w cs (.mk 0 n s names [])) (h0:-2305843009213693952≤n) (h1:n<2305843009213693952):
  Calls prog 98 #[cs] w (Jy Va 5 (fun _=>True) w (Kj n)):=by
 obtain ⟨Z,V,p4,Y,N,_⟩:=Z9.cells h
 simp only [vcs,Val.kind,Val.n,Val.s,Val.names,Val.kids,List.length_nil] at N
 subst N
 have aB:=O4 h0 h1
 have H0:=Qq h0;have H1:=Qq h1
 clear h h0 h1
 go_enter func98,ntmps98
 go_wp2_with fail
 have J:=Zu w (.cells #[Ci,n,s,.slice Z names.length V,.slice p4 0 Y] 36) (.cells #[Cm] 156)
 have hA:WAt (w+1) ((w.alloc (.cells #[Ci,n,s,.slice Z names.length V,.slice p4 0 Y] 36)).alloc (.cells #[Cm] 156)) (.slice none 0 0) []:=⟨Q6 _ _ _,[],Own.nil _ _ _ _ _⟩
 refine (C2 _ _ _ n ⟨s.toArray⟩ Z names.length V p4 Y hA H0.out H1.out).mono ?_
 rintro e w2 ⟨rfl,v2,D,I⟩
 have O:=Qq D
 have A:=Qq (J.trans (I.below.mono (Nat.le_succ _)))
 clear hA D I J
 go_wp2_with (go_at_call 135;refine (done_any _ _ _ _ O.out C7).mono ?_;rintro e w' ⟨q,qc,qs,rfl,G,M⟩;have U:=Qq G;have T:=Qq M;clear G M)
 go_ret
 exact ⟨q,qc,qs,rfl,U.out.move A.out.size (fun _ _ _=>rfl),A.out.thn T.out⟩
theorem Bd (a:List Bs) (k:Bs) (row:Val):keyOf (a++[k]) row=(match keyOf a row,Yt row k with | some l,some v=>some (l++[v]) | _,_=>none):=by
 induction a with
 | nil=>
  show (match Yt row k,some [] with | some v,some l=>some (v::l) | _,_=>none)=_
  cases Yt row k <;> rfl
 | cons x a ih=>
  show (match Yt row x,keyOf (a++[k]) row with | some v,some l=>some (v::l) | _,_=>none)=(match (match Yt row x,keyOf a row with | some v,some l=>some (v::l) | _,_=>none),Yt row k with | some l,some v=>some (l++[v]) | _,_=>none)
  rw [ih]
  cases Yt row x <;> cases keyOf a row <;> cases Yt row k <;> rfl
theorem Ef {ks:List Bs} {k:Bs} {row:Val} (hk:k ∈ ks) (h:Yt row k=none):keyOf ks row=none:=by
 induction ks with
 | nil=>simp at hk
 | cons x ks ih=>
  show (match Yt row x,keyOf ks row with | some v,some l=>some (v::l) | _,_=>none)=none
  rcases Z3.1 hk with rfl | hk
  ·rw [h]
  rw [ih hk];cases Yt row x <;> rfl
def KeyIs (w:World) (o:Option (List Val)) (e:Ending) (w':World):Prop:=∃ p n cap,e=.returned (.slice p n cap)∧n=(o.getD []).length∧Sl Zd (fun b=>w≤b) w' (.slice p n cap) (o.getD [])∧Below w w w'
theorem B9 (S S':Nat→Prop) (t:Tbl) (row:Val) (ct cr:List Value) (w:World) (ht:Zm.R S w ct t) (hr:Z9 S' w cr row) (hkl:t.key.length≤1000):
  Calls prog 15 #[ct,cr] w (KeyIs w (keyOf t.key row)):=by
 have HG:=Qq (fun x W (hb:Below w w W)=>K8 S' row cr x W (hr.move (.of_below hb) Qje))
 obtain ⟨bS,bR,bY,bX,cA,bZ,k0,s1,n0,s2,p1,n1,c1,p2,n2,c2,p3,n3,c3,a0,z0,rfl,_,_,Z,_,_⟩:=Zt ht
 obtain ⟨r3,l3,r4,l4,aP,_⟩:=Z9.cells hr
 simp only [vcs] at aP
 subst aP
 unfold tcs
 have HK:=Qq Z
 obtain ⟨i0,j1,j2,j3,j4⟩:=Y7 (P:=prog) (t:=36) (z:=.agg zV) (n:=5) (b:=80) Cd
 obtain ⟨HJ,bE,bF,bG⟩:=Qjz j1 j2 j3 j4
 clear ht hr Z j1 j2 j3 j4
 obtain ⟨n,hn⟩:=eX (t.key.length)
 rw [hn] at HK hkl ⊢
 have HN:=Qq hn
 clear hn
 obtain ⟨r,hr⟩:=eX (keyOf t.key row)
 rw [hr]
 have HR:=Qq hr
 clear hr
 unfold sv at HG
 go_enter func15,ntmps15
 go_wp2_with fail
 generalize aA:(w.alloc (.cells #[t.name,.slice bS t.columns.length bR,.slice bY n bX,.slice cA t.refs.length bZ,k0,.string s1,n0,.string s2,.slice p1 n1 c1,.slice p2 n2 c2,.slice p3 n3 c3,a0,z0] 48)).alloc (.cells (Cn row r3 l3 r4 l4) 36)=W1
 have aN:=eqB aA (Zu _ _ _)
 have aL:=eqH (b:=w.heap.size+1) aA (Q6 _ _ _)
 have bA:=Qq aN;have aE:=Qq aL
 clear aA aN aL
 go_loopw [5,13] (fun o i wr=>∃ (k:Nat) (l:List Val) (p:Option Addr) (cap:Nat),k≤n∧i=.int .i64 k∧o=.slice p k cap∧l.length=k∧Aside (keyOf (t.key.take k) row=some l)∧Below (w+2) W1 wr ∧
  (∃ css,Own Zd 36 (fun b=>w+2≤b) (w+2) wr (.slice p k cap) l css)) (fun _ i _=>n - (intOf i).toNat)
 case atStart=>exact ⟨0,[],none,0,Q8 _,rfl,rfl,rfl,rfl,Qz _ _,[],Own.nil _ _ _ _ _⟩
 obtain ⟨k,l,p,cap,cH,rfl,rfl,aR,hE,M,css,hO⟩:=hrel
 have cJ:=Z8 aE.out
 have A:=kE M C7 aE.out
 have c0:=rA0 A;have bO:=rA1 A;have bP:=rA2 A;have bQ:=rA3 A;have c4:=rA4 A
 have aO:Below w w wr:=bA.out.trans (M.mono C7)
 have cI:=M.size
 obtain ⟨bB,I,HO,HE,U⟩:=Qjk M aO hO hE.out aR
 clear A M aO hO hE aR
 by_cases hlt:k<n
 ·have cF:(0:Int)≤(k:Int):=C7
  have cG:(k:Int)<(n:Int):=C7
  have V:k<t.key.length:=by rw [HN.out];exact hlt
  obtain ⟨x,hx⟩:∃ x,t.key[k]?=some x:=⟨_,Qx V⟩
  have aT:t.key.take (k+1)=t.key.take k++[x]:=by rw [Zz V];rw [Qx V] at hx;cases hx;rfl
  obtain ⟨kb,cE,rfl,bU,-⟩:=(HK.out.below I.out).str hx
  have HX:=Qq hx;have bL:=Qq aT
  clear hx aT V
  cases hg:Yt row x with
  | none=>
   have bW:r=none:=by rw [← HR.out];exact Ef (Qy HX.out) hg
   subst bW
   have J:=Qq (HG.out x wr I.out)
   rw [hg] at J
   clear hg
   go_wp2_with (go_at_call 19;refine J.out.mono ?_;rintro e w5 ⟨bT,rfl,D,N⟩;obtain ⟨q3,m3,q4,m4,T,_⟩:=Z9.cells D;simp only [vcs,Option.getD_none,Val.zero,Val.kind,Val.n,Val.s,Val.names,Val.kids,List.length_nil] at T;subst T;have G:=Qq N;clear D N)
   go_ret
   exact ⟨none,0,0,rfl,rfl,Sl.nil _ _ _,(I.out.thn G.out).thn (Zg _ _)⟩
  | some u=>
   have J:=Qq (HG.out x wr I.out)
   rw [hg] at J
   have bD:=Qq hg
   clear hg
   go_upto_region 6 with (go_at_call 19;refine J.out.mono ?_;rintro e w5 ⟨bT,rfl,D,N⟩;obtain ⟨q3,m3,q4,m4,T,_⟩:=Z9.cells D;simp only [vcs,Option.getD_some] at T;subst T;have G:=Qq N;have bM:=Qq D;clear D N)
   generalize aB:w5.alloc (.cells (Cn u q3 m3 q4 m4) 36)=W6
   have O:=eqB aB (Zg _ _)
   have aM:=eqH (b:=w5.heap.size) aB (Qw _ _)
   obtain ⟨d0,d1,d2,d3,d4⟩:=row5 aM
   have aI:Own Zd 36 (fun b=>w+2≤b) (w+2) W6 (.slice p k cap) l css:=(HO.out.below G.out).below O
   have aK:Zd.R (But (fun b=>w+2≤b) (.slice p k cap)) W6 (Cn u q3 m3 q4 m4) u:=by
    refine Z9.move bM.out (.of_below O) (fun b _ hb=>?_)
    have h1:wr.heap.size≤b:=hb
    refine ⟨C7,fun e=>?_⟩
    have:=(HO.out.row.lt b e.symm).2
    omega
   have Y:Below (w+2) W1 W6:=bB.out.trans ((G.out.thn O).mono C7)
   have cD:=O.size;have cC:=G.out.size
   obtain ⟨bJ,bN,aC⟩:=Qjq aI aK Y
   clear aB O aM aI aK Y c0 bO bP bQ c4 bU
   go_wp2_with (at_builtin;refine Yg (r:=Zd) Cc rfl (.tmp 25) (.tmp 27) _ rfl 36 i0 (.agg zV) 80 underlying34 HJ.out bE.out bF.out bG.out rfl C7 (fun b=>w+2≤b) (w+2) W6 (.slice p k cap) l css (Cn u q3 m3 q4 m4) u rfl bJ.out rfl bN.out (by simp [Value.oneCell']) k U.out C7 C7 ?_;intro p7 aF aG w7 aJ aH;have bK:=Qq aJ;have bH:=Qq aH;clear aJ aH)
   go_roundw
   case measure=>simp [intOf];omega
   case rel=>
    refine ⟨k+1,l++[u],p7,aF,C7,by go_num,rfl,by have:=U.out;simp [this],(show Aside _ from ?_),aC.out.trans bH.out.below,aG,bK.out⟩
    have:keyOf (t.key.take (k+1)) row=some (l++[u]):=by rw [bL.out,Bd,HE.out,bD.out]
    exact this
 have aQ:k=n:=C7
 subst aQ
 have aS:r=some l:=by
  rw [← HR.out,← HE.out,Zj (by rw [HN.out];exact Q9 _)]
 have aD:=Qq aS
 clear aS
 go_wp2_with fail
 go_ret
 refine ⟨p,k,cap,rfl,by rw [aD.out];exact U.out.symm,?_,I.out⟩
 rw [aD.out]
 exact HO.out.sl (C8 U.out) (fun b hb=>C7) (fun b _ hb=>C7)
end Go.Proofs.YtcljcblceodciaaGreatDoor
