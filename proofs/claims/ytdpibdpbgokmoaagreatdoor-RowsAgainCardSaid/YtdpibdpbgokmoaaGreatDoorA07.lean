import Derived.Test.YtdpibdpbgokmoaaGreatDoorA06
set_option maxRecDepth 100000
set_option maxHeartbeats 400000000
namespace Go.Proofs.YtdpibdpbgokmoaaGreatDoor
open Go.RowKit Go.Shelf Go.Lib Tryz
theorem Xt (w:World) (o p q:Obj):Below w w (((w.alloc o).alloc p).alloc q):=(Zs w o p).alloc (Zs w o p).size _
theorem Zi (w:World) (A B C:Obj):(((w.alloc A).alloc B).alloc C).heap[w.heap.size+2]?=some C:=by
 have e:((w.alloc A).alloc B).heap.size=w.heap.size+2:=Ib
 rw [<- e];exact Qw _ _
def Fv (us:List Sm) (v:Val) (t:Ty) (b:Bool):Prop:=∀ (S S' S'':Nat->Prop) (cv ct:List Value) (ps:Option Addr) (ns cs:Nat) (w:World),Sl J3 S'' w (.slice ps ns cs) us->Z9 S w cv v->Xl S' w ct t ->
 Calls prog 82 #[.slice ps ns cs,cv,ct] w λe w'=>e=.returned (.bool b)/\Below w w w'
theorem Xl.cells' {S:Nat->Prop} {w:World} {cs:List Value} {k n:Int} {s:Bs} {names:List Bs} {kids:List Ty} (h:Xl S w cs (.mk k s n names kids)):∃ p3 k3 p4 k4,cs=[.int .i64 k,.string ⟨s.toArray⟩,.int .i64 n,.slice p3 names.length k3,.slice p4 kids.length k4]/\Sl Zh S w (.slice p3 names.length k3) names/\Sl Jl S w (.slice p4 kids.length k4) kids:=by
 obtain ⟨nv,kv,rfl,hs,hn,hk⟩:=Rs.1 h
 obtain ⟨p3,k3,rfl,_⟩:=hn.len
 obtain ⟨p4,k4,rfl,_⟩:=hk.len
 exact ⟨p3,k3,p4,k4,rfl,hn,hk⟩
theorem Am (us:List Sm) (v:Val) (k:Int) (hk:k=0\/k=1\/k=2) (s:Bs) (n:Int) (names:List Bs) (kids:List Ty):Fv us v (.mk k s n names kids) (v.kind==k):=by
 intro S S' G cv ct ps ns cs w D hv ht
 obtain ⟨p3,k3,p4,k4,A,_⟩:=Z9.cells hv
 simp only [Il] at A
 subst A
 obtain ⟨q3,l3,q4,l4,rfl,_⟩:=ht.cells'
 clear hv ht D
 rcases hk with rfl | rfl | rfl
 all_goals
  go_enter func82,ntmps82
  go_wp2_with fail
  go_ret
  exact ⟨rfl,Xt _ _ _ _⟩
theorem has2_any (us:List Sm) (v:Val) (t:Ty) (b:Bool) (h:Fv us v t b) (S S' S'':Nat->Prop) (cv ct:List Value) (ps:Option Addr) (ns cs:Nat) (B:Nat) (w:World) (hsm:Sl J3 S'' w (.slice ps ns cs) us) (hv:Z9 S w cv v) (ht:Xl S' w ct t) (hc:w.cell? ⟨B,0,none⟩=some (.slice ps ns cs)):
  Calls prog 117 #[cv,ct,Iv B] w λe w'=>e=.returned (.bool b)/\Below w w w':=by
 have HH:=Qq (λW (hb:Below w w W)=>h S S' S'' cv ct ps ns cs W (hsm.below hb) (hv.move (.f hb) Ij) (ht.move (.f hb) Ij))
 have hB:=Qv w _ hc
 obtain ⟨p3,k3,p4,k4,A,_⟩:=Z9.cells hv
 simp only [Il] at A
 subst A
 obtain ⟨_,_,_,_,_,_,_,_,_,rfl⟩:=ht.cells
 have D:B<w.heap.size:=hB
 have G:B<w.heap.size+1:=Ia
 clear hv ht h hsm
 go_enter func117,ntmps117
 go_wp2_with (go_at_call 82;refine (HH.o _ (Zs _ _ _)).mono ?_;rintro e w' ⟨rfl,hw⟩)
 go_ret
 exact ⟨rfl,(Zs _ _ _).n hw⟩
def BP (p:Val->Ty->Bool) (v:Val) (names:List Bs) (kids:List Ty):Bool:=(v.kind==4)&&Iu (λx y=>decide (x=y)) v.names names&&Iu p v.kids kids
theorem Wz (us:List Sm) (v:Val) (s:Bs) (names:List Bs) (kids:List Ty) (p:Val->Ty->Bool) (hp:∀ x ∈ v.kids,∀ y ∈ kids,Fv us x y (p x y)):Fv us v (.mk 5 s 0 names kids) (BP p v names kids):=by
 intro S0 aI aH cv ct ps ns cs w A Y T
 have O:Sl J3 (λb=>b<w) w (.slice ps ns cs) us:=A.mono (λb hb _=>hb)
 have hv:Z9 (λb=>b<w) w cv v:=Y.move (.refl _ _) (λb hb _=>hb)
 have ht:Xl (λb=>b<w) w ct (.mk 5 s 0 names kids):=T.move (.refl _ _) (λb hb _=>hb)
 clear Y T A
 obtain ⟨p3,k3,p4,k4,N,aA,Z,_⟩:=Z9.cells hv
 simp only [Il] at N
 subst N
 obtain ⟨q3,l3,q4,l4,rfl,V,U⟩:=ht.cells'
 have HN:=Qq (λW (hb:Below w w W)=>Qjt _ _ _ v.names names W (aA.below hb) (V.below hb))
 have HE:=Qq (λW (hb:Below w w W) (hc:W.cell? ⟨w,0,none⟩=some (.slice ps ns cs))=>eqFValTy 117 #[Iv w] (enters_of func117 Ir rfl) _ _ _ v.kids kids W (Z.below hb) (U.below hb) p
  (λW' x y cx cy M hx hy h1 h2=>has2_any us x y _ (hp x hx y hy) _ _ _ cx cy ps ns cs w W' ((O.below hb).below M) h1 h2 (kD M (Qv W _ hc) hc)))
 have hR:BP p v names kids=((v.kind==4)&&Iu (λx y=>decide (x=y)) v.names names&&Iu p v.kids kids):=rfl
 rw [hR]
 generalize Iu (λ(x y:Bs)=>decide (x=y)) v.names names=bn at HN |-
 generalize Iu p v.kids kids=bk at HE |-
 clear hv ht aA Z V U hp hR O
 by_cases h4:v.kind=4
 ·rw [h4]
  have hq:((4:Int)==4)=true:=rfl
  rw [hq]
  go_enter func82,ntmps82
  go_wp2_with fail
  refine (HN.o _ (Xt _ _ _ _)).mono ?_
  rintro e w1 ⟨rfl,D⟩
  have G:=(D.block w (by simp;omega)).trans ((Below.heap_alloc _ _ _ (by simp;omega)).trans (Q5 w _ _))
  have I:=(D.block (w+1) Ib).trans ((Below.heap_alloc _ _ _ Ib).trans (Q6 w _ _))
  have J:=(D.block (w+2) Ib).trans (Zi w _ _ _)
  have c0:=AB G;have c4:=Iz I;have d4:=Iz J
  have HW:=Qq ((Xt w _ _ _).n D)
  have aB:=Qq c0
  clear D G I J
  cases bn with
  | false=>
   go_wp2_with fail
   go_ret
   exact ⟨rfl,HW.o⟩
  | true=>
   go_wp2_with (go_at_call 116;refine (HE.o _ HW.o aB.o).mono ?_;rintro e w' ⟨rfl,D⟩;have aD:=Qq (HW.o.n D);clear D)
   go_ret
   exact ⟨rfl,aD.o⟩
 have hq:(v.kind==4)=false:=by simpa using h4
 rw [hq]
 clear h4
 go_enter func82,ntmps82
 go_wp2_with fail
 go_ret
 exact ⟨rfl,Xt _ _ _ _⟩
theorem hasGood (us:List Sm) (v:Val) (t:Ty) (b:Bool) (hg:Y7 v) (h:Fv us v t b) (S S' S'':Nat->Prop) (cv ct:List Value) (ps:Option Addr) (ns cs:Nat) (w:World) (hsm:Sl J3 S'' w (.slice ps ns cs) us) (hv:Z9 S w cv v) (ht:Xl S' w ct t) (hT:Xs w):
  Calls prog 30 #[.slice ps ns cs,cv,ct] w λe w'=>e=.returned (.bool b)/\Below w w w':=by
 have HV:=Qq (λW (hb:Below w w W)=>Qze v hg S cv W (hv.move (.f hb) Ij) (hT.below hb))
 have HH:=Qq (λW (hb:Below w w W)=>h S S' S'' cv ct ps ns cs W (hsm.below hb) (hv.move (.f hb) Ij) (ht.move (.f hb) Ij))
 obtain ⟨p3,k3,p4,k4,I,_⟩:=Z9.cells hv
 simp only [Il] at I
 subst I
 obtain ⟨y1,y2,y3,y4,y5,y6,y7,y8,y9,rfl⟩:=ht.cells
 clear hv ht h hg hT hsm
 go_enter func30,ntmps30
 go_wp2_with fail
 refine (HV.o _ (Zs _ _ _)).mono ?_
 rintro e w1 ⟨rfl,G⟩
 have A:=(G.block w (by simp;omega)).trans (Q5 w _ _)
 have D:=(G.block (w+1) Ib).trans (Q6 w _ _)
 have c0:=AB A;have c1:=AA A;have c2:=AM A;have c3:=AH A;have c4:=Iz A;have d0:=AB D;have d1:=AA D;have d2:=AM D;have d3:=AH D;have d4:=Iz D
 have HW:=Qq ((Zs w _ _).n G)
 clear G A D
 go_wp2_with (go_at_call 82;refine (HH.o _ HW.o).mono ?_;rintro e w' ⟨rfl,G⟩)
 go_ret
 exact ⟨rfl,HW.o.n G⟩
def Vp:Rd UInt8 where
 k:=1
 R _ _ cs x:=cs=[.int .u8 x.toNat]
 len h:=by rw [h];rfl
 frame h _:=h
 mono h _:=h
theorem Ra:∀ S w cs x,Vp.R S w cs x->∀ u ∈ cs,u.oneCell'=true:=by
 intro S w cs x h u A
 rw [show cs=[.int .u8 x.toNat] from h] at A
 simp only [Z3,Z2,or_false] at A
 subst A;rfl
def vb (n:Nat):Bs:=if h:n<128 then [UInt8.ofNat n] else UInt8.ofNat (n % 128+128)::vb (n / 128)
termination_by n
decreasing_by omega
theorem Eh {n:Nat} (h:n<128):vb n=[UInt8.ofNat n]:=by unfold vb;rw [dif_pos h]
theorem Mg {n:Nat} (h:¬ n<128):vb n=UInt8.ofNat (n % 128+128)::vb (n / 128):=by rw [vb,dif_neg h]
theorem vb_len:∀ (k n:Nat),n<128 ^ (k+1)->(vb n).length<=k+1
 | 0,n,h=>by rw [Eh (by simpa using h)];simp
 | k+1,n,h=>by
  by_cases hn:n<128
  ·rw [Eh hn];simp
  rw [Mg hn,List.length_cons]
  have:n / 128<128 ^ (k+1):=by
   rw [Nat.div_lt_iff_lt_mul Ia]
   rw [Nat.pow_succ] at h
   omega
  have:=vb_len k (n / 128) this
  omega
theorem Oy {n:Nat} (h:n<18446744073709551616):(vb n).length<=10:=vb_len 9 n Ia
structure WAt (g:Nat) (w:World) (v:Value) (bs:Bs):Prop where
 cell:w.heap[g]?=some (.cells #[v] 148 (0,0))
 own:∃ css,Own Vp 5 (λ_=>False) (g+1) w v bs css
structure Jo (g:Nat) (w:World) (v:Value) (w':World) (v':Value):Prop where
 below:Below g w w'
 size:w<=w'.heap.size
 keep:∀ b,b<w.heap.size->b≠g->some b≠v.ownBlock->w'.heap[b]?=w.heap[b]?
 at':v'.ownBlock=v.ownBlock\/∃ k,v'.ownBlock=some k/\w.heap.size<=k
theorem Jo.refl (g:Nat) (w:World) (v:Value):Jo g w v w v:=⟨Qz _ _,Q9 _,λ_ _ _ _=>rfl,.inl rfl⟩
theorem Jo.trans {g:Nat} {a b c:World} {u v x:Value} (h:Jo g a u b v) (k:Jo g b v c x):Jo g a u c x:=by
 refine ⟨h.below.trans k.below,Qc h.size k.size,λi hi hg hu=>?_,?_⟩
 ·rw [k.keep i (Qa hi h.size) hg (λe=>?_),h.keep i hi hg hu]
  rcases h.at' with e2 | ⟨q,e2,hq⟩
  ·exact hu (e.trans e2)
  rw [e2] at e;have:=Qb e;omega
 rcases k.at' with e | ⟨q,e,hq⟩
 ·rcases h.at' with e2 | ⟨q2,e2,hq2⟩
  ·exact .inl (e.trans e2)
  exact .inr ⟨q2,e.trans e2,hq2⟩
 exact .inr ⟨q,e,Qc h.size hq⟩
theorem WAt.below {g:Nat} {w w':World} {v:Value} {bs:Bs} (h:WAt g w v bs) (hb:Below w w w'):WAt g w' v bs:=by
 obtain ⟨css,ho⟩:=h.own
 exact ⟨kB hb h.cell,css,ho.below hb⟩
theorem Jo.f {g:Nat} {w w':World} {v:Value} (hb:Below w w w') (hg:g<=w):Jo g w v w' v:=⟨hb.mono hg,hb.size,λb A _ _=>hb.block b A,.inl rfl⟩
theorem or128 (m:Nat):bits BinOp.or IntKind.u8 ((m:Int) % 256) 128=((UInt8.ofNat (m % 128+128)).toNat:Int):=by
 have h:∀ r,r<256->bits BinOp.or IntKind.u8 ((r:Nat):Int) 128=((r % 128+128:Nat):Int):=Ih
 have e:(m:Int) % 256=((m % 256:Nat):Int):=Ia
 rw [e,h (m % 256) (Nat.mod_lt _ Ia)]
 rw [show (UInt8.ofNat (m % 128+128)).toNat=m % 128+128 from by rw [UInt8.toNat_ofNat'];omega]
 omega
theorem low128 (m:Nat) (h:m<128):(m:Int)=((UInt8.ofNat m).toNat:Int):=by
 rw [show (UInt8.ofNat m).toNat=m from by rw [UInt8.toNat_ofNat'];omega]
def Of (g:Nat) (w:World) (v:Value) (bs:Bs) (e:Ending) (w':World):Prop:=e=.returned (.tuple #[])/\∃ v',WAt g w' v' bs/\Jo g w v w' v'
theorem uint_any (g:Nat) (w:World) (v:Value) (bs:Bs) (n:Nat) (h:WAt g w v bs) (hn:n<18446744073709551616) (hl:bs.length<=100000):
  Calls prog 181 #[Iv g,.int .u64 n] w (Of g w v (bs++vb n)):=by
 have H:=Qq h
 obtain ⟨i5,j1,j2,j3,j4⟩:=Y8 (P:=prog) (t:=5) (z:=.int .u8 0) (n:=1) (b:=1) Ir
 obtain ⟨HJ,aB,aC,aD⟩:=It j1 j2 j3 j4
 clear h j1 j2 j3 j4
 go_enter func181,ntmps181
 go_wp2_with fail
 go_loopw [1] (λs wr=>∃ (m:Nat) (cs:Bs) (u:Value),s=.int .u64 m/\m<=n/\Aside (cs++vb m=bs++vb n)/\WAt g wr u cs/\Jo g w v wr u) (λs _=>(intOf s).toNat)
 case atStart=>exact ⟨n,bs,v,rfl,Q9 _,rfl,H.o,Jo.refl _ _ _⟩
 obtain ⟨m,cs,u,rfl,aQ,hE,hA,hS⟩:=hrel
 have c0:=Qk _ _ 0 _ _ _ hA.cell;have f0:=fA 0 hA.cell
 simp only [Qf,Qg] at c0
 obtain ⟨css,hO⟩:=hA.own
 obtain ⟨up,T,rfl⟩:∃ p cap,u=.slice p cs.length cap:=by
  rcases hO.row.2 with ⟨rfl,h0⟩ | ⟨q,cap,aO,rfl,_⟩
  ·exact ⟨none,0,by rw [h0]⟩
  exact ⟨_,_,rfl⟩
 have O:=Z8 hA.cell
 have aP:cs.length<=100010:=by
  have h1:=congrArg List.length hE.o
  rw [Ql,Ql] at h1
  have:=Oy hn
  omega
 obtain ⟨HA,HS,HO,HE⟩:=It hA.cell hS hO hE.o
 clear hA hS hO hE
 by_cases hlt:m<128
 ·have aM:(m:Int)<128:=Ia
  have hb:=low128 m hlt
  obtain ⟨c,Y⟩:=eX (UInt8.ofNat m)
  rw [Y] at hb
  have HC:=Qq Y;have aG:=Qq hb
  clear Y hb
  go_wp2_with (at_builtin;refine Yo (r:=Vp) Ih rfl (.tmp 24) (.tmp 27) _ rfl 5 i5 (.int .u8 0) 1 underlying116 HJ.o aB.o aC.o aD.o rfl Ia (λ_=>False) (g+1) wr (.slice up cs.length T) cs css [.int .u8 m] c rfl HO.o rfl (by show _=_;rw [aG.o]) (by simp [Value.oneCell']) cs.length rfl Ia Ia ?_;intro p5 N J w5 M G;have I:=Qq M;have A:=Qq G;have D:=(G.other g O (λe=>by have:=(HO.o.row.lt g e.symm).1;omega)).trans HA.o;have aJ:=fA 0 D;have aI:=AB D;have U:=Qq D;clear M G D)
  go_end0
  have aN:bs++vb n=cs++[c]:=by rw [<- HE.o,Eh hlt,HC.o]
  rw [aN]
  refine ⟨rfl,_,⟨by rw [Qi _ _ _ _ _ _ U.o];rfl,J,I.o.move (Q9 _) (λb _ h=>Za ?_)⟩,HS.o.trans ⟨(A.o.below.mono (Nat.le_succ g)).setCell (p:=⟨g,0,none⟩) (Q9 _) _,by simp [World.setCell];exact A.o.size,λb hb V Z=>?_,A.o.at'⟩⟩
  ·rcases h with h | h
   ·exact h.elim
   have:=(I.o.row.lt b h).1
   show b≠g
   omega
  rw [Za V,A.o.other b hb Z]
 have aM:(128:Int)<=(m:Int):=Ia
 have hb:=or128 m
 obtain ⟨c,Y⟩:=eX (UInt8.ofNat (m % 128+128))
 rw [Y] at hb
 have HC:=Qq Y
 clear Y
 go_wp2_with (at_builtin;refine Yo (r:=Vp) Ih rfl (.tmp 12) (.tmp 16) _ rfl 5 i5 (.int .u8 0) 1 underlying116 HJ.o aB.o aC.o aD.o rfl Ia (λ_=>False) (g+1) wr (.slice up cs.length T) cs css [.int .u8 c.toNat] c rfl HO.o rfl rfl (by simp [Value.oneCell']) cs.length rfl Ia Ia ?_;intro p5 N J w5 M G;have I:=Qq M;have A:=Qq G;have D:=(G.other g O (λe=>by have:=(HO.o.row.lt g e.symm).1;omega)).trans HA.o;have aJ:=fA 0 D;have aI:=AB D;have U:=Qq D;clear M G D)
 go_roundw
 case measure=>simp only [intOf];omega
 case rel=>
  refine ⟨m / 128,cs++[c],.slice p5 (cs.length+1) N,by go_num,Ia,(show Aside _ from ?_),⟨by rw [Qi _ _ _ _ _ _ U.o];rfl,J,I.o.move (Q9 _) (λb _ h=>Za ?_)⟩,HS.o.trans ⟨(A.o.below.mono (Nat.le_succ g)).setCell (p:=⟨g,0,none⟩) (Q9 _) _,by simp [World.setCell];exact A.o.size,λb hb V Z=>?_,A.o.at'⟩⟩
  ·have h1:=HE.o
   rw [Mg hlt,HC.o] at h1
   have h2:cs++[c]++vb (m / 128)=bs++vb n:=by rw [<- h1];simp
   exact h2
  ·rcases h with h | h
   ·exact h.elim
   have:=(I.o.row.lt b h).1
   show b≠g
   omega
  rw [Za V,A.o.other b hb Z]
def zz (n:Int):Nat:=if 0<=n then (2*n).toNat else (-2*n - 1).toNat
theorem xor_zero (x:Int) (h0:0<=x) (h1:x<18446744073709551616):bits BinOp.xor IntKind.u64 x 0=x:=by
 show IntKind.u64.wrap ((BitVec.ofInt 64 x ^^^ BitVec.ofInt 64 0).toNat:Int)=x
 have e:BitVec.ofInt 64 0=0#64:=Ih
 rw [e,BitVec.xor_zero,IntKind.wrap_u64,BitVec.toNat_ofInt]
 omega
theorem xor_ones (x:Int) (h0:0<=x) (h1:x<18446744073709551616):bits BinOp.xor IntKind.u64 x 18446744073709551615=18446744073709551615 - x:=by
 show IntKind.u64.wrap ((BitVec.ofInt 64 x ^^^ BitVec.ofInt 64 18446744073709551615).toNat:Int)=_
 have e:BitVec.ofInt 64 18446744073709551615=BitVec.allOnes 64:=Ih
 rw [e,BitVec.xor_allOnes,BitVec.toNat_not,IntKind.wrap_u64,BitVec.toNat_ofInt]
 omega
theorem zig_any (n:Int) (h0:-2305843009213693952<=n) (h1:n<2305843009213693952) (w:World):Calls prog 195 #[n] w λe w'=>e=.returned (.int .u64 (zz n))/\w=w':=by
 by_cases h:0<=n
 ·have A:bits BinOp.xor IntKind.u64 (n*2) (n / 9223372036854775808)=(zz n:Nat):=by
   rw [show n / 9223372036854775808=0 by omega,xor_zero _ Ia Ia]
   unfold zz;rw [if_pos h];omega
  have D:=Qq A
  clear A
  go_enter func195,ntmps195
  go_wp2_with fail
  go_ret
  exact ⟨Dz D.o,rfl⟩
 have h':n<0:=Ia
 have A:bits BinOp.xor IntKind.u64 (IntKind.u64.wrap (IntKind.u64.wrap n*2)) (IntKind.u64.wrap (n / 9223372036854775808))=(zz n:Nat):=by
  rw [IntKind.wrap_u64,IntKind.wrap_u64,IntKind.wrap_u64,show n / 9223372036854775808 % 18446744073709551616=18446744073709551615 by omega,xor_ones _ Ia Ia]
  unfold zz;rw [if_neg h];omega
 have D:=Qq A
 clear A h
 go_enter func195,ntmps195
 go_wp2_with fail
 go_ret
 exact ⟨Dz D.o,rfl⟩
theorem Au {n:Int} (h0:-2305843009213693952<=n) (h1:n<2305843009213693952):zz n<18446744073709551616:=by unfold zz;split <;> omega
theorem zz_inj {a b:Int} (h:zz a=zz b):a=b:=by unfold zz at h;split at h <;> split at h <;> omega
theorem Wr:∀ (n a b:Nat) (x y:Bs),a<=n->vb a++x=vb b++y->a=b/\x=y
 | n,a,b,x,y,hn,h=>by
  by_cases ha:a<128
  ·by_cases hb:b<128
   ·rw [Eh ha,Eh hb] at h
    simp only [List.cons_append,List.nil_append,List.cons.injEq] at h
    have h1:=congrArg UInt8.toNat h.1
    rw [UInt8.toNat_ofNat',UInt8.toNat_ofNat'] at h1
    exact ⟨Ia,h.2⟩
   rw [Eh ha,Mg hb] at h
   simp only [List.cons_append,List.nil_append,List.cons.injEq] at h
   have h1:=congrArg UInt8.toNat h.1
   rw [UInt8.toNat_ofNat',UInt8.toNat_ofNat'] at h1
   omega
  by_cases hb:b<128
  ·rw [Mg ha,Eh hb] at h
   simp only [List.cons_append,List.nil_append,List.cons.injEq] at h
   have h1:=congrArg UInt8.toNat h.1
   rw [UInt8.toNat_ofNat',UInt8.toNat_ofNat'] at h1
   omega
  rw [Mg ha,Mg hb] at h
  simp only [List.cons_append,List.cons.injEq] at h
  have h1:=congrArg UInt8.toNat h.1
  rw [UInt8.toNat_ofNat',UInt8.toNat_ofNat'] at h1
  cases n with
  | zero=>omega
  | succ n=>
   obtain ⟨h2,h3⟩:=Wr n (a / 128) (b / 128) x y Ia h.2
   exact ⟨Ia,h3⟩
theorem Ay (g:Nat) (w:World) (v:Value) (bs:Bs) (n:Int) (h:WAt g w v bs) (h0:-2305843009213693952<=n) (h1:n<2305843009213693952) (hl:bs.length<=100000):
  Calls prog 180 #[Iv g,n] w (Of g w v (bs++vb (zz n))):=by
 have HZ:=Qq (zig_any n h0 h1 w)
 have A:=Qq (uint_any g w v bs (zz n) h (Au h0 h1) hl)
 clear h h0 h1 hl
 generalize zz n=m at HZ A |-
 generalize D:bs++vb m=b2 at A |-
 clear D
 go_enter func180,ntmps180
 go_wp2_with (first | (go_at_call 195;refine HZ.o.mono ?_;rintro e w' ⟨rfl,rfl⟩) | (go_at_call 181;refine A.o.mono ?_;rintro e w' ⟨rfl,hw⟩))
 go_end0
 exact ⟨rfl,hw⟩
theorem C2 (g:Nat) (w:World) (v:Value) (bs:Bs) (a n:Int) (b:Nat) (hA:WAt g w v bs) (h0:-2305843009213693952<=n) (h1:n<2305843009213693952) (a0:-2305843009213693952<=a) (a1:a<2305843009213693952) (hl:bs.length<=10000)
  (hb:w.heap[b]?=some (.cells #[a,n] 3 (0,0))) (hbg:b≠g) (hbv:v.ownBlock≠some b):
  Calls prog 159 #[Iv g,Io b 0 2 2] w (Of g w v (bs++vb (zz a)++vb (zz n))):=by
 obtain ⟨HA,HB,HV,H0,H1,Z,aA⟩:=BN hA hb hbv h0 h1 a0 a1
 have aG:=Oy (Au a0 a1)
 clear hA hb hbv h0 h1 a0 a1
 go_enter func159,ntmps159
 go_wp2_with fail
 go_loopw [8] (λi wr=>∃ (k:Nat) (cs:Bs) (u:Value),k<=2/\i=.int .i64 k/\Aside (k=0->cs=bs)/\Aside (k=1->cs=bs++vb (zz a))/\Aside (k=2->cs=bs++vb (zz a)++vb (zz n))/\WAt g wr u cs/\Jo g w v wr u) (λi _=>2 - (intOf i).toNat)
 case atStart=>exact ⟨0,bs,v,Ia,rfl,λ_=>rfl,λh=>Ia,λh=>Ia,HA.o,Jo.refl _ _ _⟩
 obtain ⟨k,cs,u,hk,rfl,U,V,Y,hA,hS⟩:=hrel
 have T:wr.heap[b]?=some (.cells #[a,n] 3 (0,0)):=by
  rw [hS.keep b (Z8 HB.o) hbg (λe=>HV.o e.symm)];exact HB.o
 obtain ⟨c0,c1⟩:=AF T
 have HS:=Qq hS
 clear T hS
 match k,hk with
 | 0,_=>
  have A:cs=bs:=U.o rfl
  subst A
  have O:=Qq (Ay g wr u cs a hA Z.o aA.o Ia)
  clear U V Y hA
  generalize D:cs++vb (zz a)=b2 at O
  have M:=Qq D
  clear D
  rw [show ((0:Nat):Int)=0 from rfl]
  go_wp2_with (go_at_call 180;refine O.o.mono ?_;rintro e w' ⟨rfl,v',G,I⟩;have J:=Qq G;have N:=Qq I;clear G I)
  go_roundw
  case measure=>simp [intOf]
  case rel=>exact ⟨1,b2,v',Ia,rfl,λh=>Ia,λ_=>(by first | exact M.o.symm | rfl),λh=>Ia,J.o,HS.o.trans N.o⟩
 | 1,_=>
  have A:cs=bs++vb (zz a):=V.o rfl
  have O:=Qq (Ay g wr u cs n hA H0.o H1.o (by rw [A,Ql];omega))
  clear U V Y hA
  generalize D:cs++vb (zz n)=b2 at O
  rw [A] at D
  have M:=Qq D
  clear D A
  rw [show ((1:Nat):Int)=1 from rfl]
  go_wp2_with (go_at_call 180;refine O.o.mono ?_;rintro e w' ⟨rfl,v',G,I⟩;have J:=Qq G;have N:=Qq I;clear G I)
  go_roundw
  case measure=>simp [intOf]
  case rel=>exact ⟨2,b2,v',Ia,rfl,λh=>Ia,λh=>Ia,λ_=>(by first | exact M.o.symm | rfl),J.o,HS.o.trans N.o⟩
 | 2,_=>
  have A:cs=bs++vb (zz a)++vb (zz n):=Y.o rfl
  have aC:=Qq A
  have aB:=Qq hA
  clear U V Y hA A
  rw [show ((2:Nat):Int)=2 from rfl]
  go_wp2_with fail
  go_end0
  exact ⟨rfl,u,by rw [<- aC.o];exact aB.o,HS.o⟩
def Jc (n:Int):Bs:=vb (zz 0)++vb (zz n)
theorem encI_inj {a b:Int} (h:Jc a=Jc b):a=b:=by
 unfold Jc at h
 have h1:=List.append_cancel_left h
 have:=Wr (zz a) (zz a) (zz b) [] [] (Q9 _) (by simpa using h1)
 exact zz_inj this.1
theorem Pi {n:Int} (h0:-2305843009213693952<=n) (h1:n<2305843009213693952):(Jc n).length<=20:=by
 have a:=Oy (Au (n:=0) Ia Ia)
 have b:=Oy (Au h0 h1)
 unfold Jc;rw [Ql];omega
theorem Qqk (g:Nat) (w:World) (v:Value) (n:Int) (s:ByteArray) (p3:Option Addr) (l3 k3:Nat) (p4:Option Addr) (k4:Nat) (hA:WAt g w v []) (h0:-2305843009213693952<=n) (h1:n<2305843009213693952):
  Calls prog 122 #[Iv g,.agg #[Ic,n,.string s,.slice p3 l3 k3,.slice p4 0 k4]] w (Of g w v (Jc n)):=by
 have hg:=Z8 hA.cell
 have G:∀ b,v.ownBlock=some b->b<w.heap.size:=λb hb=>by
  obtain ⟨_,ho⟩:=hA.own
  exact (ho.row.lt b hb).2
 obtain ⟨HA,D,H0,H1⟩:=It hA G h0 h1
 clear hA G h0 h1
 go_enter func122,ntmps122
 go_wp2_with fail
 have A:Below w w ((w.alloc (.cells #[Ic,n,.string s,.slice p3 l3 k3,.slice p4 0 k4] 36)).alloc (.cells #[Ic,n] 3)):=Zs _ _ _
 have U:=Q5 w (.cells #[Ic,n,.string s,.slice p3 l3 k3,.slice p4 0 k4] 36) (.cells #[Ic,n] 3)
 have V:=Q6 w (.cells #[Ic,n,.string s,.slice p3 l3 k3,.slice p4 0 k4] 36) (.cells #[Ic,n] 3)
 generalize (w.alloc (.cells #[Ic,n,.string s,.slice p3 l3 k3,.slice p4 0 k4] 36)).alloc (.cells #[Ic,n] 3)=W1 at A U V |-
 have hi:=C2 g W1 v [] 0 n (w+1) (HA.o.below A) H0.o H1.o Ia Ia Ib V Ia (λe=>by have:=D.o _ e;omega)
 obtain ⟨HI,O,HX⟩:=Im hi A U
 clear hi A U V
 rw [List.nil_append,show vb (zz 0)++vb (zz n)=Jc n from rfl] at HI
 refine HI.o.mono ?_
 rintro e w2 ⟨rfl,v2,J,I⟩
 have M:=(I.keep w (Z8 HX.o) Ia (λe=>by have:=D.o _ e.symm;omega)).trans HX.o
 have c4:=Iz M
 have N:=Qq J;have T:=Qq ((Jo.f (v:=v) O.o Ia:Jo g w v W1 v).trans I)
 clear J I M
 go_wp2_with fail
 go_loop [57] (λi=>i=.int .i64 0) (λ_=>0)
 case atStart=>exact rfl
 subst hrel
 go_wp2_with fail
 go_end0
 exact ⟨rfl,v2,N.o,T.o⟩
theorem C9 (S:Nat->Prop) (v:Value) (xs:List UInt8) (w:World) (hs:Sl Vp S w v xs):Calls prog 161 #[v] w (Jn Vp 5 S w xs):=by
 obtain ⟨i0,h1,h2,h3,h4⟩:=Y8 (P:=prog) (t:=5) (z:=.int .u8 0) (n:=1) (b:=1) Ir
 exact Fa Tryz.clByte Vp Ih 1 i0 _ h1 h2 h3 h4 rfl sizeOf5 Ia Ra S v xs w hs
theorem done_any (g:Nat) (w:World) (v:Value) (bs:Bs) (hA:WAt g w v bs) (hl:bs.length<=1000000):
  Calls prog 123 #[Iv g] w (Jn Vp 5 (λ_=>True) w bs):=by
 obtain ⟨css,hO⟩:=hA.own
 have A:Sl Vp (λ_=>True) w v bs:=hO.sl hl (λ_ _=>trivial) (λ_ _ _=>trivial)
 have HC:=Qq (C9 _ v bs w A)
 obtain ⟨p,cap,rfl,_⟩:=A.len
 have c0:=AB hA.cell
 clear hA hO A
 go_enter func123,ntmps123
 go_wp2_with (go_at_call 161;refine HC.o.mono ?_;rintro e w' ⟨q,qc,qs,rfl,D,G⟩;have J:=Qq D;have I:=Qq G;clear D G)
 go_ret
 exact ⟨q,qc,qs,rfl,J.o,I.o⟩
theorem Ww (S:Nat->Prop) (n:Int) (s:Bs) (names:List Bs) (cs:List Value) (w:World) (h:Z9 S w cs (.mk 0 n s names [])) (h0:-2305843009213693952<=n) (h1:n<2305843009213693952):
  Calls prog 84 #[cs] w (Jn Vp 5 (λ_=>True) w (Jc n)):=by
 obtain ⟨Z,V,p4,Y,N,_⟩:=Z9.cells h
 simp only [Il,Val.kind,Val.n,Val.s,Val.names,Val.kids,List.length_nil] at N
 subst N
 have aB:=Pi h0 h1
 have H0:=Qq h0;have H1:=Qq h1
 clear h h0 h1
 go_enter func84,ntmps84
 go_wp2_with fail
 have J:=Zs w (.cells #[Ic,n,s,.slice Z names.length V,.slice p4 0 Y] 36) (.cells #[Ie] 148)
 have hA:WAt (w+1) ((w.alloc (.cells #[Ic,n,s,.slice Z names.length V,.slice p4 0 Y] 36)).alloc (.cells #[Ie] 148)) (.slice none 0 0) []:=⟨Q6 _ _ _,[],Own.nil _ _ _ _ _⟩
 refine (Qqk _ _ _ n ⟨s.toArray⟩ Z names.length V p4 Y hA H0.o H1.o).mono ?_
 rintro e w2 ⟨rfl,v2,D,I⟩
 have O:=Qq D
 have A:=Qq (J.trans (I.below.mono (Nat.le_succ _)))
 clear hA D I J
 go_wp2_with (go_at_call 123;refine (done_any _ _ _ _ O.o Ia).mono ?_;rintro e w' ⟨q,qc,qs,rfl,G,M⟩;have U:=Qq G;have T:=Qq M;clear G M)
 go_ret
 exact ⟨q,qc,qs,rfl,U.o.move A.o.size (λ_ _ _=>rfl),A.o.n T.o⟩
end Go.Proofs.YtdpibdpbgokmoaaGreatDoor
