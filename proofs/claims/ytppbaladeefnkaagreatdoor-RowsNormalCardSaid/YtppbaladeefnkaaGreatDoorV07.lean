import Derived.Test.YtppbaladeefnkaaGreatDoorV06
set_option maxRecDepth 100000
set_option maxHeartbeats 400000000
namespace Go.Proofs.YtppbaladeefnkaaGreatDoor
open Go.RowKit Go.Shelf Go.Lib Tryz
theorem Xr (w:World) (o p q:Obj):Below w.heap.size w (((w.alloc o).alloc p).alloc q):=(Zv w o p).alloc (Zv w o p).size _
theorem Zw (w:World) (A B C:Obj):(((w.alloc A).alloc B).alloc C).heap[w.heap.size+2]?=some C:=by
 have e:((w.alloc A).alloc B).heap.size=w.heap.size+2:=by simp
 rw [← e];exact Qw _ _
def Dz (v:Val) (t:Ty) (b:Bool):Prop:=∀ (S S':Nat→Prop) (cv ct:List Value) (ps:Option Addr) (ns cs:Nat) (w:World),Qh S w cv v→Y7 S' w ct t →
 Calls prog 124 #[.slice ps ns cs,.agg cv.toArray,.agg ct.toArray] w fun e w'=>e=.returned (.bool b)∧Below w.heap.size w w'
theorem Y7.cells' {S:Nat→Prop} {w:World} {cs:List Value} {k n:Int} {s:Bs} {names:List Bs} {kids:List Ty} (h:Y7 S w cs (.mk k s n names kids)):∃ p3 k3 p4 k4,cs=[.int .i64 k,.string ⟨s.toArray⟩,.int .i64 n,.slice p3 names.length k3,.slice p4 kids.length k4]∧Sl Qp S w (.slice p3 names.length k3) names∧Sl Uq S w (.slice p4 kids.length k4) kids:=by
 obtain ⟨nv,kv,rfl,hs,hn,hk⟩:=L1.1 h
 obtain ⟨p3,k3,rfl,_⟩:=hn.len
 obtain ⟨p4,k4,rfl,_⟩:=hk.len
 exact ⟨p3,k3,p4,k4,rfl,hn,hk⟩
theorem hasLeaf (v:Val) (k:Int) (hk:k=0∨k=1∨k=2) (s:Bs) (n:Int) (names:List Bs) (kids:List Ty):Dz v (.mk k s n names kids) (v.kind==k):=by
 intro S S' cv ct ps ns cs w hv ht
 obtain ⟨p3,k3,p4,k4,hcv,_⟩:=Qh.cells hv
 simp only [vcs] at hcv
 subst hcv
 obtain ⟨q3,l3,q4,l4,rfl,_⟩:=ht.cells'
 clear hv ht
 rcases hk with rfl | rfl | rfl
 all_goals
  go_enter func124,ntmps124
  go_wp2_with fail
  go_ret
  exact ⟨rfl,Xr _ _ _ _⟩
theorem has2_any (v:Val) (t:Ty) (b:Bool) (h:Dz v t b) (S S':Nat→Prop) (cv ct:List Value) (ps:Option Addr) (ns cs:Nat) (B:Nat) (w:World) (hv:Qh S w cv v) (ht:Y7 S' w ct t) (hc:w.cell? ⟨B,0,none⟩=some (.slice ps ns cs)):
  Calls prog 151 #[.agg cv.toArray,.agg ct.toArray,.pointer (some ⟨B,0,none⟩)] w fun e w'=>e=.returned (.bool b)∧Below w.heap.size w w':=by
 have HH:=Qq (fun W (hb:Below w.heap.size w W)=>h S S' cv ct ps ns cs W (hv.move (.of_below hb) (fun _ _ h=>h)) (ht.move (.of_below hb) (fun _ _ h=>h)))
 have hB:=Qv w _ hc
 obtain ⟨p3,k3,p4,k4,hcv,_⟩:=Qh.cells hv
 simp only [vcs] at hcv
 subst hcv
 obtain ⟨_,_,_,_,_,_,_,_,_,rfl⟩:=ht.cells
 have hB1:B<w.heap.size:=hB
 have hB2:B<w.heap.size+1:=by omega
 clear hv ht h
 go_enter func151,ntmps151
 go_wp2_with (go_at_call 124;refine (HH.out _ (Zv _ _ _)).mono ?_;rintro e w' ⟨rfl,hw⟩)
 go_ret
 exact ⟨rfl,(Zv _ _ _).thn hw⟩
def hasR (p:Val→Ty→Bool) (v:Val) (names:List Bs) (kids:List Ty):Bool:=(v.kind==4)&&eqL (fun x y=>decide (x=y)) v.names names&&eqL p v.kids kids
theorem hasRec (v:Val) (s:Bs) (names:List Bs) (kids:List Ty) (p:Val→Ty→Bool) (hp:∀ x ∈ v.kids,∀ y ∈ kids,Dz x y (p x y)):Dz v (.mk 5 s 0 names kids) (hasR p v names kids):=by
 intro S0 S0' cv ct ps ns cs w hv0 ht0
 have hv:Qh (fun b=>b<w.heap.size) w cv v:=hv0.move (.refl _ _) (fun b hb _=>hb)
 have ht:Y7 (fun b=>b<w.heap.size) w ct (.mk 5 s 0 names kids):=ht0.move (.refl _ _) (fun b hb _=>hb)
 clear hv0 ht0
 obtain ⟨p3,k3,p4,k4,hcv,hvn,hvk,_⟩:=Qh.cells hv
 simp only [vcs] at hcv
 subst hcv
 obtain ⟨q3,l3,q4,l4,rfl,htn,htk⟩:=ht.cells'
 have HN:=Qq (fun W (hb:Below w.heap.size w W)=>T7 _ _ _ v.names names W (hvn.below hb) (htn.below hb))
 have HE:=Qq (fun W (hb:Below w.heap.size w W) (hc:W.cell? ⟨w.heap.size,0,none⟩=some (.slice ps ns cs))=>eqFValTy 151 #[.pointer (some ⟨w.heap.size,0,none⟩)] (enters_of func151 (by kernel_rfl) rfl) _ _ _ v.kids kids W (hvk.below hb) (htk.below hb) p
  (fun W' x y cx cy hb' hx hy h1 h2=>has2_any x y _ (hp x hx y hy) _ _ cx cy ps ns cs w.heap.size W' h1 h2 ((hb'.cell (p:=⟨w.heap.size,0,none⟩) (Qv W _ hc)).trans hc)))
 have hR:hasR p v names kids=((v.kind==4)&&eqL (fun x y=>decide (x=y)) v.names names&&eqL p v.kids kids):=rfl
 rw [hR]
 generalize eqL (fun (x y:Bs)=>decide (x=y)) v.names names=bn at HN ⊢
 generalize eqL p v.kids kids=bk at HE ⊢
 clear hv ht hvn hvk htn htk hp hR
 by_cases h4:v.kind=4
 ·rw [h4]
  have hq:((4:Int)==4)=true:=rfl
  rw [hq]
  go_enter func124,ntmps124
  go_wp2_with fail
  refine (HN.out _ (Xr _ _ _ _)).mono ?_
  rintro e w1 ⟨rfl,hw⟩
  have hG0:=(hw.block w.heap.size (by simp;omega)).trans ((Below.heap_alloc _ _ _ (by simp;omega)).trans (Q5 w _ _))
  have hG1:=(hw.block (w.heap.size+1) (by simp)).trans ((Below.heap_alloc _ _ _ (by simp)).trans (Q6 w _ _))
  have hG2:=(hw.block (w.heap.size+2) (by simp)).trans (Zw w _ _ _)
  have c0:=rA0 hG0;have c4:=rA4 hG1;have d4:=rA4 hG2
  have HW:=Qq ((Xr w _ _ _).thn hw)
  have HC0:=Qq c0
  clear hw hG0 hG1 hG2
  cases bn with
  | false=>
   go_wp2_with fail
   go_ret
   exact ⟨rfl,HW.out⟩
  | true=>
   go_wp2_with (go_at_call 150;refine (HE.out _ HW.out HC0.out).mono ?_;rintro e w' ⟨rfl,hw⟩;have HW2:=Qq (HW.out.thn hw);clear hw)
   go_ret
   exact ⟨rfl,HW2.out⟩
 have hq:(v.kind==4)=false:=by simpa using h4
 rw [hq]
 clear h4
 go_enter func124,ntmps124
 go_wp2_with fail
 go_ret
 exact ⟨rfl,Xr _ _ _ _⟩
theorem hasGood (v:Val) (t:Ty) (b:Bool) (hg:Zr v) (h:Dz v t b) (S S':Nat→Prop) (cv ct:List Value) (ps:Option Addr) (ns cs:Nat) (w:World) (hv:Qh S w cv v) (ht:Y7 S' w ct t) (hT:Xe w):
  Calls prog 89 #[.slice ps ns cs,.agg cv.toArray,.agg ct.toArray] w fun e w'=>e=.returned (.bool b)∧Below w.heap.size w w':=by
 have HV:=Qq (fun W (hb:Below w.heap.size w W)=>T0 v hg S cv W (hv.move (.of_below hb) (fun _ _ h=>h)) (hT.below hb))
 have HH:=Qq (fun W (hb:Below w.heap.size w W)=>h S S' cv ct ps ns cs W (hv.move (.of_below hb) (fun _ _ h=>h)) (ht.move (.of_below hb) (fun _ _ h=>h)))
 obtain ⟨p3,k3,p4,k4,hcv,_⟩:=Qh.cells hv
 simp only [vcs] at hcv
 subst hcv
 obtain ⟨y1,y2,y3,y4,y5,y6,y7,y8,y9,rfl⟩:=ht.cells
 clear hv ht h hg hT
 go_enter func89,ntmps89
 go_wp2_with fail
 refine (HV.out _ (Zv _ _ _)).mono ?_
 rintro e w1 ⟨rfl,hw⟩
 have hG0:=(hw.block w.heap.size (by simp;omega)).trans (Q5 w _ _)
 have hG1:=(hw.block (w.heap.size+1) (by simp)).trans (Q6 w _ _)
 have c0:=rA0 hG0;have c1:=rA1 hG0;have c2:=rA2 hG0;have c3:=rA3 hG0;have c4:=rA4 hG0;have d0:=rA0 hG1;have d1:=rA1 hG1;have d2:=rA2 hG1;have d3:=rA3 hG1;have d4:=rA4 hG1
 have HW:=Qq ((Zv w _ _).thn hw)
 clear hw hG0 hG1
 go_wp2_with (go_at_call 124;refine (HH.out _ HW.out).mono ?_;rintro e w' ⟨rfl,hw⟩)
 go_ret
 exact ⟨rfl,HW.out.thn hw⟩
def Xz:Rd UInt8 where
 k:=1
 R _ _ cs x:=cs=[.int .u8 x.toNat]
 len h:=by rw [h];rfl
 frame h _:=h
 mono h _:=h
theorem Ly:∀ S w cs x,Xz.R S w cs x→∀ u ∈ cs,u.oneCell'=true:=by
 intro S w cs x h u hu
 rw [show cs=[.int .u8 x.toNat] from h] at hu
 simp only [List.mem_cons,List.not_mem_nil,or_false] at hu
 subst hu;rfl
def vb (n:Nat):Bs:=if h:n<128 then [UInt8.ofNat n] else UInt8.ofNat (n % 128+128)::vb (n / 128)
termination_by n
decreasing_by omega
theorem Fj {n:Nat} (h:n<128):vb n=[UInt8.ofNat n]:=by unfold vb;rw [dif_pos h]
theorem Ed {n:Nat} (h:¬ n<128):vb n=UInt8.ofNat (n % 128+128)::vb (n / 128):=by rw [vb,dif_neg h]
theorem vb_len:∀ (k n:Nat),n<128 ^ (k+1)→(vb n).length≤k+1
 | 0,n,h=>by rw [Fj (by simpa using h)];simp
 | k+1,n,h=>by
  by_cases hn:n<128
  ·rw [Fj hn];simp
  rw [Ed hn,List.length_cons]
  have:n / 128<128 ^ (k+1):=by
   rw [Nat.div_lt_iff_lt_mul (by omega)]
   rw [Nat.pow_succ] at h
   omega
  have:=vb_len k (n / 128) this
  omega
theorem Hj {n:Nat} (h:n<18446744073709551616):(vb n).length≤10:=vb_len 9 n (by omega)
structure WAt (g:Nat) (w:World) (v:Value) (bs:Bs):Prop where
 cell:w.heap[g]?=some (.cells #[v] 169 (0,0))
 own:∃ css,Own Xz 5 (fun _=>False) (g+1) w v bs css
structure Uy (g:Nat) (w:World) (v:Value) (w':World) (v':Value):Prop where
 below:Below g w w'
 size:w.heap.size≤w'.heap.size
 keep:∀ b,b<w.heap.size→b≠g→some b≠v.ownBlock→w'.heap[b]?=w.heap[b]?
 at':v'.ownBlock=v.ownBlock∨∃ k,v'.ownBlock=some k∧w.heap.size≤k
theorem Uy.refl (g:Nat) (w:World) (v:Value):Uy g w v w v:=⟨Qz _ _,Q9 _,fun _ _ _ _=>rfl,.inl rfl⟩
theorem Uy.trans {g:Nat} {a b c:World} {u v x:Value} (h:Uy g a u b v) (k:Uy g b v c x):Uy g a u c x:=by
 refine ⟨h.below.trans k.below,Qc h.size k.size,fun i hi hg hu=>?_,?_⟩
 ·rw [k.keep i (Qa hi h.size) hg (fun e=>?_),h.keep i hi hg hu]
  rcases h.at' with e2 | ⟨q,e2,hq⟩
  ·exact hu (e.trans e2)
  rw [e2] at e;have:=Qb e;omega
 rcases k.at' with e | ⟨q,e,hq⟩
 ·rcases h.at' with e2 | ⟨q2,e2,hq2⟩
  ·exact .inl (e.trans e2)
  exact .inr ⟨q2,e.trans e2,hq2⟩
 exact .inr ⟨q,e,Qc h.size hq⟩
theorem WAt.below {g:Nat} {w w':World} {v:Value} {bs:Bs} (h:WAt g w v bs) (hb:Below w.heap.size w w'):WAt g w' v bs:=by
 obtain ⟨css,ho⟩:=h.own
 exact ⟨kB hb h.cell,css,ho.below hb⟩
theorem Uy.of_below {g:Nat} {w w':World} {v:Value} (hb:Below w.heap.size w w') (hg:g≤w.heap.size):Uy g w v w' v:=⟨hb.mono hg,hb.size,fun b hlt _ _=>hb.block b hlt,.inl rfl⟩
theorem or128 (m:Nat):bits BinOp.or IntKind.u8 ((m:Int) % 256) 128=((UInt8.ofNat (m % 128+128)).toNat:Int):=by
 have h:∀ r,r<256→bits BinOp.or IntKind.u8 ((r:Nat):Int) 128=((r % 128+128:Nat):Int):=by decide
 have e:(m:Int) % 256=((m % 256:Nat):Int):=by omega
 rw [e,h (m % 256) (Nat.mod_lt _ (by omega))]
 rw [show (UInt8.ofNat (m % 128+128)).toNat=m % 128+128 from by rw [UInt8.toNat_ofNat'];omega]
 omega
theorem low128 (m:Nat) (h:m<128):(m:Int)=((UInt8.ofNat m).toNat:Int):=by
 rw [show (UInt8.ofNat m).toNat=m from by rw [UInt8.toNat_ofNat'];omega]
def H5 (g:Nat) (w:World) (v:Value) (bs:Bs) (e:Ending) (w':World):Prop:=e=.returned (.tuple #[])∧∃ v',WAt g w' v' bs∧Uy g w v w' v'
theorem uint_any (g:Nat) (w:World) (v:Value) (bs:Bs) (n:Nat) (h:WAt g w v bs) (hn:n<18446744073709551616) (hl:bs.length≤100000):
  Calls prog 206 #[.pointer (some ⟨g,0,none⟩),.int .u64 n] w (H5 g w v (bs++vb n)):=by
 have H:=Qq h
 obtain ⟨i5,j1,j2,j3,j4⟩:=Za (P:=prog) (t:=5) (z:=.int .u8 0) (n:=1) (b:=1) (by kernel_rfl)
 have HJ:=Qq j1;have HJ2:=Qq j2;have HJ3:=Qq j3;have HJ4:=Qq j4
 clear h j1 j2 j3 j4
 go_enter func206,ntmps206
 go_wp2_with fail
 go_loopw [1] (fun s wr=>∃ (m:Nat) (cs:Bs) (u:Value),s=.int .u64 m∧m≤n∧Aside (cs++vb m=bs++vb n)∧WAt g wr u cs∧Uy g w v wr u) (fun s _=>(intOf s).toNat)
 case atStart=>exact ⟨n,bs,v,rfl,Q9 _,rfl,H.out,Uy.refl _ _ _⟩
 obtain ⟨m,cs,u,rfl,hmn,hE,hA,hS⟩:=hrel
 have c0:=Qk _ _ 0 _ _ _ hA.cell;have f0:=fA 0 hA.cell
 simp only [List.getElem?_toArray,List.getElem?_cons_zero] at c0
 obtain ⟨css,hO⟩:=hA.own
 obtain ⟨up,ucap,rfl⟩:∃ p cap,u=.slice p cs.length cap:=by
  rcases hO.row.2 with ⟨rfl,h0⟩ | ⟨q,cap,cur,rfl,_⟩
  ·exact ⟨none,0,by rw [h0]⟩
  exact ⟨_,_,rfl⟩
 have hglt:=Qf hA.cell
 have hcl:cs.length≤100010:=by
  have h1:=congrArg List.length hE.out
  rw [List.length_append,List.length_append] at h1
  have:=Hj hn
  omega
 have HA:=Qq hA.cell;have HS:=Qq hS;have HO:=Qq hO;have HE:=Qq hE.out
 clear hA hS hO hE
 by_cases hlt:m<128
 ·have hge:(m:Int)<128:=by omega
  have hb:=low128 m hlt
  obtain ⟨c,hc⟩:=eX (UInt8.ofNat m)
  rw [hc] at hb
  have HC:=Qq hc;have HBy:=Qq hb
  clear hc hb
  go_wp2_with (at_builtin;refine Zm (r:=Xz) (by decide) rfl (.tmp 24) (.tmp 27) _ rfl 5 i5 (.int .u8 0) 1 underlying143 HJ.out HJ2.out HJ3.out HJ4.out rfl (by omega) (fun _=>False) (g+1) wr (.slice up cs.length ucap) cs css [.int .u8 m] c rfl HO.out rfl (by show _=_;rw [HBy.out]) (by simp [Value.oneCell']) cs.length rfl (by omega) (by omega) ?_;intro p5 cap5 css5 w5 hO5 hL5;have HO5:=Qq hO5;have HL5:=Qq hL5;have hB5:=(hL5.other g hglt (fun e=>by have:=(HO.out.row.lt g e.symm).1;omega)).trans HA.out;have f35:=fA 0 hB5;have c35:=rA0 hB5;have HB5:=Qq hB5;clear hO5 hL5 hB5)
  go_end0
  have hvb:bs++vb n=cs++[c]:=by rw [← HE.out,Fj hlt,HC.out]
  rw [hvb]
  refine ⟨rfl,_,⟨by rw [heap_setCell_same _ _ _ _ _ _ HB5.out];rfl,css5,HO5.out.move (Q9 _) (fun b _ h=>Qg ?_)⟩,HS.out.trans ⟨(HL5.out.below.mono (Nat.le_succ g)).setCell (p:=⟨g,0,none⟩) (Q9 _) _,by simp [World.setCell];exact HL5.out.size,fun b hb hbg hne=>?_,HL5.out.at'⟩⟩
  ·rcases h with h | h
   ·exact h.elim
   have:=(HO5.out.row.lt b h).1
   show b≠g
   omega
  rw [Qg hbg,HL5.out.other b hb hne]
 have hge:(128:Int)≤(m:Int):=by omega
 have hb:=or128 m
 obtain ⟨c,hc⟩:=eX (UInt8.ofNat (m % 128+128))
 rw [hc] at hb
 have HC:=Qq hc
 clear hc
 go_wp2_with (at_builtin;refine Zm (r:=Xz) (by decide) rfl (.tmp 12) (.tmp 16) _ rfl 5 i5 (.int .u8 0) 1 underlying143 HJ.out HJ2.out HJ3.out HJ4.out rfl (by omega) (fun _=>False) (g+1) wr (.slice up cs.length ucap) cs css [.int .u8 c.toNat] c rfl HO.out rfl rfl (by simp [Value.oneCell']) cs.length rfl (by omega) (by omega) ?_;intro p5 cap5 css5 w5 hO5 hL5;have HO5:=Qq hO5;have HL5:=Qq hL5;have hB5:=(hL5.other g hglt (fun e=>by have:=(HO.out.row.lt g e.symm).1;omega)).trans HA.out;have f35:=fA 0 hB5;have c35:=rA0 hB5;have HB5:=Qq hB5;clear hO5 hL5 hB5)
 go_roundw
 case measure=>simp only [intOf];omega
 case rel=>
  refine ⟨m / 128,cs++[c],.slice p5 (cs.length+1) cap5,by go_num,by omega,(show Aside _ from ?_),⟨by rw [heap_setCell_same _ _ _ _ _ _ HB5.out];rfl,css5,HO5.out.move (Q9 _) (fun b _ h=>Qg ?_)⟩,HS.out.trans ⟨(HL5.out.below.mono (Nat.le_succ g)).setCell (p:=⟨g,0,none⟩) (Q9 _) _,by simp [World.setCell];exact HL5.out.size,fun b hb hbg hne=>?_,HL5.out.at'⟩⟩
  ·have h1:=HE.out
   rw [Ed hlt,HC.out] at h1
   have h2:cs++[c]++vb (m / 128)=bs++vb n:=by rw [← h1];simp
   exact h2
  ·rcases h with h | h
   ·exact h.elim
   have:=(HO5.out.row.lt b h).1
   show b≠g
   omega
  rw [Qg hbg,HL5.out.other b hb hne]
def zz (n:Int):Nat:=if 0≤n then (2*n).toNat else (-2*n - 1).toNat
theorem xor_zero (x:Int) (h0:0≤x) (h1:x<18446744073709551616):bits BinOp.xor IntKind.u64 x 0=x:=by
 show IntKind.u64.wrap ((BitVec.ofInt 64 x ^^^ BitVec.ofInt 64 0).toNat:Int)=x
 have e:BitVec.ofInt 64 0=0#64:=by decide
 rw [e,BitVec.xor_zero,IntKind.wrap_u64,BitVec.toNat_ofInt]
 omega
theorem xor_ones (x:Int) (h0:0≤x) (h1:x<18446744073709551616):bits BinOp.xor IntKind.u64 x 18446744073709551615=18446744073709551615 - x:=by
 show IntKind.u64.wrap ((BitVec.ofInt 64 x ^^^ BitVec.ofInt 64 18446744073709551615).toNat:Int)=_
 have e:BitVec.ofInt 64 18446744073709551615=BitVec.allOnes 64:=by decide
 rw [e,BitVec.xor_allOnes,BitVec.toNat_not,IntKind.wrap_u64,BitVec.toNat_ofInt]
 omega
theorem zig_any (n:Int) (h0:-2305843009213693952≤n) (h1:n<2305843009213693952) (w:World):Calls prog 223 #[.int .i64 n] w fun e w'=>e=.returned (.int .u64 (zz n))∧w=w':=by
 by_cases h:0≤n
 ·have e1:bits BinOp.xor IntKind.u64 (n*2) (n / 9223372036854775808)=(zz n:Nat):=by
   rw [show n / 9223372036854775808=0 by omega,xor_zero _ (by omega) (by omega)]
   unfold zz;rw [if_pos h];omega
  have HE:=Qq e1
  clear e1
  go_enter func223,ntmps223
  go_wp2_with fail
  go_ret
  exact ⟨Jy HE.out,rfl⟩
 have h':n<0:=by omega
 have e1:bits BinOp.xor IntKind.u64 (IntKind.u64.wrap (IntKind.u64.wrap n*2)) (IntKind.u64.wrap (n / 9223372036854775808))=(zz n:Nat):=by
  rw [IntKind.wrap_u64,IntKind.wrap_u64,IntKind.wrap_u64,show n / 9223372036854775808 % 18446744073709551616=18446744073709551615 by omega,xor_ones _ (by omega) (by omega)]
  unfold zz;rw [if_neg h];omega
 have HE:=Qq e1
 clear e1 h
 go_enter func223,ntmps223
 go_wp2_with fail
 go_ret
 exact ⟨Jy HE.out,rfl⟩
theorem Ou {n:Int} (h0:-2305843009213693952≤n) (h1:n<2305843009213693952):zz n<18446744073709551616:=by unfold zz;split <;> omega
theorem zz_inj {a b:Int} (h:zz a=zz b):a=b:=by unfold zz at h;split at h <;> split at h <;> omega
theorem vb_inj:∀ (n a b:Nat) (x y:Bs),a≤n→vb a++x=vb b++y→a=b∧x=y
 | n,a,b,x,y,hn,h=>by
  by_cases ha:a<128
  ·by_cases hb:b<128
   ·rw [Fj ha,Fj hb] at h
    simp only [List.cons_append,List.nil_append,List.cons.injEq] at h
    have h1:=congrArg UInt8.toNat h.1
    rw [UInt8.toNat_ofNat',UInt8.toNat_ofNat'] at h1
    exact ⟨by omega,h.2⟩
   rw [Fj ha,Ed hb] at h
   simp only [List.cons_append,List.nil_append,List.cons.injEq] at h
   have h1:=congrArg UInt8.toNat h.1
   rw [UInt8.toNat_ofNat',UInt8.toNat_ofNat'] at h1
   omega
  by_cases hb:b<128
  ·rw [Ed ha,Fj hb] at h
   simp only [List.cons_append,List.nil_append,List.cons.injEq] at h
   have h1:=congrArg UInt8.toNat h.1
   rw [UInt8.toNat_ofNat',UInt8.toNat_ofNat'] at h1
   omega
  rw [Ed ha,Ed hb] at h
  simp only [List.cons_append,List.cons.injEq] at h
  have h1:=congrArg UInt8.toNat h.1
  rw [UInt8.toNat_ofNat',UInt8.toNat_ofNat'] at h1
  cases n with
  | zero=>omega
  | succ n=>
   obtain ⟨h2,h3⟩:=vb_inj n (a / 128) (b / 128) x y (by omega) h.2
   exact ⟨by omega,h3⟩
theorem Pk (g:Nat) (w:World) (v:Value) (bs:Bs) (n:Int) (h:WAt g w v bs) (h0:-2305843009213693952≤n) (h1:n<2305843009213693952) (hl:bs.length≤100000):
  Calls prog 205 #[.pointer (some ⟨g,0,none⟩),.int .i64 n] w (H5 g w v (bs++vb (zz n))):=by
 have HZ:=Qq (zig_any n h0 h1 w)
 have HU:=Qq (uint_any g w v bs (zz n) h (Ou h0 h1) hl)
 clear h h0 h1 hl
 generalize zz n=m at HZ HU ⊢
 generalize hbs:bs++vb m=b2 at HU ⊢
 clear hbs
 go_enter func205,ntmps205
 go_wp2_with (first | (go_at_call 223;refine HZ.out.mono ?_;rintro e w' ⟨rfl,rfl⟩) | (go_at_call 206;refine HU.out.mono ?_;rintro e w' ⟨rfl,hw⟩))
 go_end0
 exact ⟨rfl,hw⟩
theorem Tj (g:Nat) (w:World) (v:Value) (bs:Bs) (a n:Int) (b:Nat) (hA:WAt g w v bs) (h0:-2305843009213693952≤n) (h1:n<2305843009213693952) (a0:-2305843009213693952≤a) (a1:a<2305843009213693952) (hl:bs.length≤10000)
  (hb:w.heap[b]?=some (.cells #[.int .i64 a,.int .i64 n] 3 (0,0))) (hbg:b≠g) (hbv:v.ownBlock≠some b):
  Calls prog 188 #[.pointer (some ⟨g,0,none⟩),.slice (some ⟨b,0,none⟩) 2 2] w (H5 g w v (bs++vb (zz a)++vb (zz n))):=by
 have HA:=Qq hA;have HB:=Qq hb;have HV:=Qq hbv;have H0:=Qq h0;have H1:=Qq h1;have HA0:=Qq a0;have HA1:=Qq a1
 have hza:=Hj (Ou a0 a1)
 clear hA hb hbv h0 h1 a0 a1
 go_enter func188,ntmps188
 go_wp2_with fail
 go_loopw [8] (fun i wr=>∃ (k:Nat) (cs:Bs) (u:Value),k≤2∧i=.int .i64 k∧Aside (k=0→cs=bs)∧Aside (k=1→cs=bs++vb (zz a))∧Aside (k=2→cs=bs++vb (zz a)++vb (zz n))∧WAt g wr u cs∧Uy g w v wr u) (fun i _=>2 - (intOf i).toNat)
 case atStart=>exact ⟨0,bs,v,by omega,rfl,fun _=>rfl,fun h=>by omega,fun h=>by omega,HA.out,Uy.refl _ _ _⟩
 obtain ⟨k,cs,u,hk,rfl,e0,e1,e2,hA,hS⟩:=hrel
 have hbr:wr.heap[b]?=some (.cells #[.int .i64 a,.int .i64 n] 3 (0,0)):=by
  rw [hS.keep b (Qf HB.out) hbg (fun e=>HV.out e.symm)];exact HB.out
 obtain ⟨c0,c1⟩:=row2 hbr
 have HS:=Qq hS
 clear hbr hS
 match k,hk with
 | 0,_=>
  have hcs:cs=bs:=e0.out rfl
  subst hcs
  have HI:=Qq (Pk g wr u cs a hA HA0.out HA1.out (by omega))
  clear e0 e1 e2 hA
  generalize hb2:cs++vb (zz a)=b2 at HI
  have HB2:=Qq hb2
  clear hb2
  rw [show ((0:Nat):Int)=0 from rfl]
  go_wp2_with (go_at_call 205;refine HI.out.mono ?_;rintro e w' ⟨rfl,v',hA',hS'⟩;have HA':=Qq hA';have HS':=Qq hS';clear hA' hS')
  go_roundw
  case measure=>simp [intOf]
  case rel=>exact ⟨1,b2,v',by omega,rfl,fun h=>by omega,fun _=>(by first | exact HB2.out.symm | rfl),fun h=>by omega,HA'.out,HS.out.trans HS'.out⟩
 | 1,_=>
  have hcs:cs=bs++vb (zz a):=e1.out rfl
  have HI:=Qq (Pk g wr u cs n hA H0.out H1.out (by rw [hcs,List.length_append];omega))
  clear e0 e1 e2 hA
  generalize hb2:cs++vb (zz n)=b2 at HI
  rw [hcs] at hb2
  have HB2:=Qq hb2
  clear hb2 hcs
  rw [show ((1:Nat):Int)=1 from rfl]
  go_wp2_with (go_at_call 205;refine HI.out.mono ?_;rintro e w' ⟨rfl,v',hA',hS'⟩;have HA':=Qq hA';have HS':=Qq hS';clear hA' hS')
  go_roundw
  case measure=>simp [intOf]
  case rel=>exact ⟨2,b2,v',by omega,rfl,fun h=>by omega,fun h=>by omega,fun _=>(by first | exact HB2.out.symm | rfl),HA'.out,HS.out.trans HS'.out⟩
 | 2,_=>
  have hcs:cs=bs++vb (zz a)++vb (zz n):=e2.out rfl
  have HCS:=Qq hcs
  have HA2:=Qq hA
  clear e0 e1 e2 hA hcs
  rw [show ((2:Nat):Int)=2 from rfl]
  go_wp2_with fail
  go_end0
  exact ⟨rfl,u,by rw [← HCS.out];exact HA2.out,HS.out⟩
def J3 (n:Int):Bs:=vb (zz 0)++vb (zz n)
theorem encI_inj {a b:Int} (h:J3 a=J3 b):a=b:=by
 unfold J3 at h
 have h1:=List.append_cancel_left h
 have:=vb_inj (zz a) (zz a) (zz b) [] [] (Q9 _) (by simpa using h1)
 exact zz_inj this.1
theorem Mm {n:Int} (h0:-2305843009213693952≤n) (h1:n<2305843009213693952):(J3 n).length≤20:=by
 have a:=Hj (Ou (n:=0) (by omega) (by omega))
 have b:=Hj (Ou h0 h1)
 unfold J3;rw [List.length_append];omega
theorem Ps (g:Nat) (w:World) (v:Value) (n:Int) (s:ByteArray) (p3:Option Addr) (l3 k3:Nat) (p4:Option Addr) (k4:Nat) (hA:WAt g w v []) (h0:-2305843009213693952≤n) (h1:n<2305843009213693952):
  Calls prog 156 #[.pointer (some ⟨g,0,none⟩),.agg #[.int .i64 0,.int .i64 n,.string s,.slice p3 l3 k3,.slice p4 0 k4]] w (H5 g w v (J3 n)):=by
 have hg:=Qf hA.cell
 have hown:∀ b,v.ownBlock=some b→b<w.heap.size:=fun b hb=>by
  obtain ⟨_,ho⟩:=hA.own
  exact (ho.row.lt b hb).2
 have HA:=Qq hA;have HOwn:=Qq hown;have H0:=Qq h0;have H1:=Qq h1
 clear hA hown h0 h1
 go_enter func156,ntmps156
 go_wp2_with fail
 have hb1:Below w.heap.size w ((w.alloc (.cells #[.int .i64 0,.int .i64 n,.string s,.slice p3 l3 k3,.slice p4 0 k4] 44)).alloc (.cells #[.int .i64 0,.int .i64 n] 3)):=Zv _ _ _
 have hX:=Q5 w (.cells #[.int .i64 0,.int .i64 n,.string s,.slice p3 l3 k3,.slice p4 0 k4] 44) (.cells #[.int .i64 0,.int .i64 n] 3)
 have hY:=Q6 w (.cells #[.int .i64 0,.int .i64 n,.string s,.slice p3 l3 k3,.slice p4 0 k4] 44) (.cells #[.int .i64 0,.int .i64 n] 3)
 generalize (w.alloc (.cells #[.int .i64 0,.int .i64 n,.string s,.slice p3 l3 k3,.slice p4 0 k4] 44)).alloc (.cells #[.int .i64 0,.int .i64 n] 3)=W1 at hb1 hX hY ⊢
 have hi:=Tj g W1 v [] 0 n (w.heap.size+1) (HA.out.below hb1) H0.out H1.out (by omega) (by omega) (by simp) hY (by omega) (fun e=>by have:=HOwn.out _ e;omega)
 have HI:=Qq hi;have HB1:=Qq hb1;have HX:=Qq hX
 clear hi hb1 hX hY
 rw [List.nil_append,show vb (zz 0)++vb (zz n)=J3 n from rfl] at HI
 refine HI.out.mono ?_
 rintro e w2 ⟨rfl,v2,hA2,hS2⟩
 have hX2:=(hS2.keep w.heap.size (Qf HX.out) (by omega) (fun e=>by have:=HOwn.out _ e.symm;omega)).trans HX.out
 have c4:=rA4 hX2
 have HA2:=Qq hA2;have HS2:=Qq ((Uy.of_below (v:=v) HB1.out (by omega):Uy g w v W1 v).trans hS2)
 clear hA2 hS2 hX2
 go_wp2_with fail
 go_loop [57] (fun i=>i=.int .i64 0) (fun _=>0)
 case atStart=>exact rfl
 subst hrel
 go_wp2_with fail
 go_end0
 exact ⟨rfl,v2,HA2.out,HS2.out⟩
theorem R4 (S:Nat→Prop) (v:Value) (xs:List UInt8) (w:World) (hs:Sl Xz S w v xs):Calls prog 190 #[v] w (U3 Xz 5 S w xs):=by
 obtain ⟨i0,h1,h2,h3,h4⟩:=Za (P:=prog) (t:=5) (z:=.int .u8 0) (n:=1) (b:=1) (by kernel_rfl)
 exact Jo Tryz.clByte Xz (by decide) 1 i0 _ h1 h2 h3 h4 rfl sizeOf5 (by omega) Ly S v xs w hs
theorem done_any (g:Nat) (w:World) (v:Value) (bs:Bs) (hA:WAt g w v bs) (hl:bs.length≤1000000):
  Calls prog 157 #[.pointer (some ⟨g,0,none⟩)] w (U3 Xz 5 (fun _=>True) w bs):=by
 obtain ⟨css,hO⟩:=hA.own
 have hSl:Sl Xz (fun _=>True) w v bs:=hO.sl hl (fun _ _=>trivial) (fun _ _ _=>trivial)
 have HC:=Qq (R4 _ v bs w hSl)
 obtain ⟨p,cap,rfl,_⟩:=hSl.len
 have c0:=rA0 hA.cell
 clear hA hO hSl
 go_enter func157,ntmps157
 go_wp2_with (go_at_call 190;refine HC.out.mono ?_;rintro e w' ⟨q,qc,qs,rfl,hO2,hb2⟩;have HO2:=Qq hO2;have HB2:=Qq hb2;clear hO2 hb2)
 go_ret
 exact ⟨q,qc,qs,rfl,HO2.out,HB2.out⟩
theorem Nz (S:Nat→Prop) (n:Int) (s:Bs) (names:List Bs) (cs:List Value) (w:World) (h:Qh S w cs (.mk 0 n s names [])) (h0:-2305843009213693952≤n) (h1:n<2305843009213693952):
  Calls prog 125 #[.agg cs.toArray] w (U3 Xz 5 (fun _=>True) w (J3 n)):=by
 obtain ⟨p3,k3,p4,k4,hcs,_⟩:=Qh.cells h
 simp only [vcs,Val.kind,Val.n,Val.s,Val.names,Val.kids,List.length_nil] at hcs
 subst hcs
 have hel:=Mm h0 h1
 have H0:=Qq h0;have H1:=Qq h1
 clear h h0 h1
 go_enter func125,ntmps125
 go_wp2_with fail
 have hb1:=Zv w (.cells #[.int .i64 0,.int .i64 n,.string ⟨s.toArray⟩,.slice p3 names.length k3,.slice p4 0 k4] 44) (.cells #[.slice none 0 0] 169)
 have hA:WAt (w.heap.size+1) ((w.alloc (.cells #[.int .i64 0,.int .i64 n,.string ⟨s.toArray⟩,.slice p3 names.length k3,.slice p4 0 k4] 44)).alloc (.cells #[.slice none 0 0] 169)) (.slice none 0 0) []:=⟨Q6 _ _ _,[],Own.nil _ _ _ _ _⟩
 refine (Ps _ _ _ n ⟨s.toArray⟩ p3 names.length k3 p4 k4 hA H0.out H1.out).mono ?_
 rintro e w2 ⟨rfl,v2,hA2,hS2⟩
 have HA2:=Qq hA2
 have HB2:=Qq (hb1.trans (hS2.below.mono (Nat.le_succ _)))
 clear hA hA2 hS2 hb1
 go_wp2_with (go_at_call 157;refine (done_any _ _ _ _ HA2.out (by omega)).mono ?_;rintro e w' ⟨q,qc,qs,rfl,hO2,hb2⟩;have HO2:=Qq hO2;have HB3:=Qq hb2;clear hO2 hb2)
 go_ret
 exact ⟨q,qc,qs,rfl,HO2.out.move HB2.out.size (fun _ _ _=>rfl),HB2.out.thn HB3.out⟩
theorem Gx (a:List Bs) (k:Bs) (row:Val):keyOf (a++[k]) row=(match keyOf a row,Y1 row k with | some l,some v=>some (l++[v]) | _,_=>none):=by
 induction a with
 | nil=>
  show (match Y1 row k,some [] with | some v,some l=>some (v::l) | _,_=>none)=_
  cases Y1 row k <;> rfl
 | cons x a ih=>
  show (match Y1 row x,keyOf (a++[k]) row with | some v,some l=>some (v::l) | _,_=>none)=(match (match Y1 row x,keyOf a row with | some v,some l=>some (v::l) | _,_=>none),Y1 row k with | some l,some v=>some (l++[v]) | _,_=>none)
  rw [ih]
  cases Y1 row x <;> cases keyOf a row <;> cases Y1 row k <;> rfl
theorem Bk {ks:List Bs} {k:Bs} {row:Val} (hk:k ∈ ks) (h:Y1 row k=none):keyOf ks row=none:=by
 induction ks with
 | nil=>simp at hk
 | cons x ks ih=>
  show (match Y1 row x,keyOf ks row with | some v,some l=>some (v::l) | _,_=>none)=none
  rcases List.mem_cons.1 hk with rfl | hk
  ·rw [h]
  rw [ih hk];cases Y1 row x <;> rfl
def KeyIs (w:World) (o:Option (List Val)) (e:Ending) (w':World):Prop:=∃ p n cap,e=.returned (.slice p n cap)∧n=(o.getD []).length∧Sl Ql (fun b=>w.heap.size≤b) w' (.slice p n cap) (o.getD [])∧Below w.heap.size w w'
theorem Or (S S':Nat→Prop) (t:Tbl) (row:Val) (ct cr:List Value) (w:World) (ht:Qt.R S w ct t) (hr:Qh S' w cr row) (hkl:t.key.length≤1000):
  Calls prog 14 #[.agg ct.toArray,.agg cr.toArray] w (KeyIs w (keyOf t.key row)):=by
 have HG:=Qq (fun x W (hb:Below w.heap.size w W)=>Oh S' row cr x W (hr.move (.of_below hb) (fun _ _ h=>h)))
 obtain ⟨cp0,cc0,kp0,kc0,rp0,rc0,k0,s1,n0,s2,p1,n1,c1,p2,n2,c2,p3,n3,c3,a0,z0,rfl,_,_,hkey,_,_⟩:=Zk ht
 obtain ⟨r3,l3,r4,l4,hcr,_⟩:=Qh.cells hr
 simp only [vcs] at hcr
 subst hcr
 unfold tcs
 have HK:=Qq hkey
 obtain ⟨i0,j1,j2,j3,j4⟩:=Za (P:=prog) (t:=44) (z:=.agg zV) (n:=5) (b:=80) (by kernel_rfl)
 have HJ:=Qq j1;have HJ2:=Qq j2;have HJ3:=Qq j3;have HJ4:=Qq j4
 clear ht hr hkey j1 j2 j3 j4
 obtain ⟨n,hn⟩:=eX (t.key.length)
 rw [hn] at HK hkl ⊢
 have HN:=Qq hn
 clear hn
 obtain ⟨r,hr⟩:=eX (keyOf t.key row)
 rw [hr]
 have HR:=Qq hr
 clear hr
 unfold sv at HG
 go_enter func14,ntmps14
 go_wp2_with fail
 generalize hW1:(w.alloc (.cells #[.string ⟨t.name.toArray⟩,.slice cp0 t.columns.length cc0,.slice kp0 n kc0,.slice rp0 t.refs.length rc0,.int .i64 k0,.string s1,.int .i64 n0,.string s2,.slice p1 n1 c1,.slice p2 n2 c2,.slice p3 n3 c3,.int .i64 a0,.int .i64 z0] 37)).alloc (.cells #[.int .i64 row.kind,.int .i64 row.n,.string ⟨row.s.toArray⟩,.slice r3 row.names.length l3,.slice r4 row.kids.length l4] 44)=W1
 have hb1:=eqB hW1 (Zv _ _ _)
 have hX1:=eqH (b:=w.heap.size+1) hW1 (Q6 _ _ _)
 have HB1:=Qq hb1;have HX1:=Qq hX1
 clear hW1 hb1 hX1
 go_loopw [5,13] (fun o i wr=>∃ (k:Nat) (l:List Val) (p:Option Addr) (cap:Nat),k≤n∧i=.int .i64 k∧o=.slice p k cap∧l.length=k∧Aside (keyOf (t.key.take k) row=some l)∧Below (w.heap.size+2) W1 wr ∧
  (∃ css,Own Ql 44 (fun b=>w.heap.size+2≤b) (w.heap.size+2) wr (.slice p k cap) l css)) (fun _ i _=>n - (intOf i).toNat)
 case atStart=>exact ⟨0,[],none,0,Q8 _,rfl,rfl,rfl,rfl,Qz _ _,[],Own.nil _ _ _ _ _⟩
 obtain ⟨k,l,p,cap,hkn,rfl,rfl,hll,hE,hBr,css,hO⟩:=hrel
 have hsz:=Qf HX1.out
 have hXr:=kE hBr (by omega) HX1.out
 have c0:=rA0 hXr;have c1':=rA1 hXr;have c2':=rA2 hXr;have c3':=rA3 hXr;have c4:=rA4 hXr
 have hbw:Below w.heap.size w wr:=HB1.out.trans (hBr.mono (by omega))
 have hsr:=hBr.size
 have HBr:=Qq hBr;have HBw:=Qq hbw;have HO:=Qq hO;have HE:=Qq hE.out;have HLL:=Qq hll
 clear hXr hBr hbw hO hE hll
 by_cases hlt:k<n
 ·have hi1:(0:Int)≤(k:Int):=by omega
  have hi2:(k:Int)<(n:Int):=by omega
  have hka:k<t.key.length:=by rw [HN.out];exact hlt
  obtain ⟨x,hx⟩:∃ x,t.key[k]?=some x:=⟨_,Qx hka⟩
  have htk:t.key.take (k+1)=t.key.take k++[x]:=by rw [List.take_succ_eq_append_getElem hka];rw [Qx hka] at hx;cases hx;rfl
  obtain ⟨kb,koff,rfl,hkc,-⟩:=(HK.out.below HBw.out).str hx
  have HX:=Qq hx;have HTK:=Qq htk
  clear hx htk hka
  cases hg:Y1 row x with
  | none=>
   have hr0:r=none:=by rw [← HR.out];exact Bk (Qy HX.out) hg
   subst hr0
   have HG2:=Qq (HG.out x wr HBw.out)
   rw [hg] at HG2
   clear hg
   go_wp2_with (go_at_call 39;refine HG2.out.mono ?_;rintro e w5 ⟨cs',rfl,hv5,hb5⟩;obtain ⟨q3,m3,q4,m4,hcs,_⟩:=Qh.cells hv5;simp only [vcs,Option.getD_none,Val.zero,Val.kind,Val.n,Val.s,Val.names,Val.kids,List.length_nil] at hcs;subst hcs;have HB5:=Qq hb5;clear hv5 hb5)
   go_ret
   exact ⟨none,0,0,rfl,rfl,Sl.nil _ _ _,(HBw.out.thn HB5.out).thn (Qn _ _)⟩
  | some u=>
   have HG2:=Qq (HG.out x wr HBw.out)
   rw [hg] at HG2
   have HGu:=Qq hg
   clear hg
   go_upto_region 6 with (go_at_call 39;refine HG2.out.mono ?_;rintro e w5 ⟨cs',rfl,hv5,hb5⟩;obtain ⟨q3,m3,q4,m4,hcs,_⟩:=Qh.cells hv5;simp only [vcs,Option.getD_some] at hcs;subst hcs;have HB5:=Qq hb5;have HV5:=Qq hv5;clear hv5 hb5)
   generalize hW6:w5.alloc (.cells #[.int .i64 u.kind,.int .i64 u.n,.string ⟨u.s.toArray⟩,.slice q3 u.names.length m3,.slice q4 u.kids.length m4] 44)=W6
   have hb6:=eqB hW6 (Qn _ _)
   have hX6:=eqH (b:=w5.heap.size) hW6 (Qw _ _)
   obtain ⟨d0,d1,d2,d3,d4⟩:=row5 hX6
   have hO6:Own Ql 44 (fun b=>w.heap.size+2≤b) (w.heap.size+2) W6 (.slice p k cap) l css:=(HO.out.below HB5.out).below hb6
   have hV6:Ql.R (But (fun b=>w.heap.size+2≤b) (.slice p k cap)) W6 [.int .i64 u.kind,.int .i64 u.n,.string ⟨u.s.toArray⟩,.slice q3 u.names.length m3,.slice q4 u.kids.length m4] u:=by
    refine Qh.move HV5.out (.of_below hb6) (fun b _ hb=>?_)
    have h1:wr.heap.size≤b:=hb
    refine ⟨by omega,fun e=>?_⟩
    have:=(HO.out.row.lt b e.symm).2
    omega
   have hbig:Below (w.heap.size+2) W1 W6:=HBr.out.trans ((HB5.out.thn hb6).mono (by omega))
   have hsz6:=hb6.size;have hsz5:=HB5.out.size
   have HO6:=Qq hO6;have HV6:=Qq hV6;have HBig:=Qq hbig
   clear hW6 hb6 hX6 hO6 hV6 hbig c0 c1' c2' c3' c4 hkc
   go_wp2_with (at_builtin;refine Zm (r:=Ql) (by decide) rfl (.tmp 25) (.tmp 27) _ rfl 44 i0 (.agg zV) 80 underlying40 HJ.out HJ2.out HJ3.out HJ4.out rfl (by omega) (fun b=>w.heap.size+2≤b) (w.heap.size+2) W6 (.slice p k cap) l css [.int .i64 u.kind,.int .i64 u.n,.string ⟨u.s.toArray⟩,.slice q3 u.names.length m3,.slice q4 u.kids.length m4] u rfl HO6.out rfl HV6.out (by simp [Value.oneCell']) k HLL.out (by omega) (by omega) ?_;intro p7 cap7 css7 w7 hO7 hL7;have HO7:=Qq hO7;have HL7:=Qq hL7;clear hO7 hL7)
   go_roundw
   case measure=>simp [intOf];omega
   case rel=>
    refine ⟨k+1,l++[u],p7,cap7,by omega,by go_num,rfl,by have:=HLL.out;simp [this],(show Aside _ from ?_),HBig.out.trans HL7.out.below,css7,HO7.out⟩
    have:keyOf (t.key.take (k+1)) row=some (l++[u]):=by rw [HTK.out,Gx,HE.out,HGu.out]
    exact this
 have hkn':k=n:=by omega
 subst hkn'
 have hr1:r=some l:=by
  rw [← HR.out,← HE.out,List.take_of_length_le (by rw [HN.out];exact Q9 _)]
 have HR1:=Qq hr1
 clear hr1
 go_wp2_with fail
 go_ret
 refine ⟨p,k,cap,rfl,by rw [HR1.out];exact HLL.out.symm,?_,HBw.out⟩
 rw [HR1.out]
 exact HO.out.sl (by have:=HLL.out;omega) (fun b hb=>by omega) (fun b _ hb=>by omega)
open Go.RowKit Go.Shelf Go.Lib Go.WideMaps Go.Maps
section
variable {P:Program} {T:Type}
theorem J0 {r:Rd T} (hk:0<r.k) {ops:Array Oper} {rest:List Oper} {o:Oper} {a:Act} {Q:Exit→Act→World→Prop} (hgd:o.guard=none) (s x:Operand) (t:TypeId)
  (ho:o.op=.call { callee:=.builtin .append,args:=#[s,x],argTypes:=#[t,t] }) (E:TypeId) (i:TypeInfo) (z:Value) (bytes:Nat) (ht:P.underlying t=some (.slice E)) (hi:P.info? E=some i) (hz:i.zero=some z)
  (hsize:i.size=r.k) (hby:i.bytes=bytes) (hzs:z.cells.size=r.k) (hb1:bytes≤1000) (S:Nat→Prop) (B:Nat) (w:World) (v:Value) (xs:List T) (css:List (List Value)) (ys:List T) (q:Option Addr) (m c:Nat) (hs:a.eval s=v)
  (hO:Own r E S B w v xs css) (hx:a.eval x=.slice q m c) (hY:Sl r (But S v) w (.slice q m c) ys) (hm:m=ys.length) (hne:ys≠[]) (h1:∀ S w cs x,r.R S w cs x→∀ u ∈ cs,u.oneCell'=true) (hl:xs.length+ys.length≤1000000) (hB:B≤w.heap.size)
  (h:∀ p cap css' w1,Own r E S B w1 (.slice p (xs.length+m) cap) (xs++ys) css'→w.grownBy w1 v.ownBlock→((Value.slice p (xs.length+m) cap).ownBlock=v.ownBlock∨(Value.slice p (xs.length+m) cap).ownBlock=some w.heap.size)→wpList P ops Q rest (a.put o.dst (.slice p (xs.length+m) cap)) w1):
  wpList P ops Q (o::rest) a w:=by
 subst hm
 obtain ⟨q',c',dss,hv,hD,hc⟩:=hY.css hk
 simp only [Value.slice.injEq] at hv
 obtain ⟨rfl,-,rfl⟩:=hv
 obtain ⟨b,off,rfl,_,hblt,hcell⟩:=hc hne
 refine wpList_append_own_at (P:=P) (w:=w) hgd s x t ho B E i z r.k bytes ht hi hz hsize hby hzs hk v xs.length css.flatten hs hO.row ⟨b,off,none⟩ ys.length c dss.flatten hx hD.flat (fun j u hu=>?_) (fun u hu=>?_) (by unfold maxLen;omega) (by
   have:=Nat.mul_le_mul (show xs.length+ys.length≤1000000 by omega) hb1
   omega) hB (fun v1 w1 hown hgrow _ hat=>?_)
 ·rw [show (⟨b,off,none⟩:Addr).add j=⟨b,off+j,none⟩ by unfold Addr.add;split <;> simp_all]
  exact hcell j u hu
 ·obtain ⟨cc,hcm,huc⟩:=List.mem_flatten.1 hu
  obtain ⟨i',hi'⟩:=List.getElem?_of_mem hcm
  have hil:=(Qj hi').1
  exact h1 _ w cc _ (hD.R i' cc _ hi' (Qx (by rw [← hD.len];exact hil))) u huc
 have hO2:=hO.append hD (ys:=ys) (dss:=dss) (v':=v1) (w2:=w1) hown hgrow hat
 have hpos:0<ys.length:=List.length_pos_iff.2 hne
 rcases hown.2 with ⟨_,hn⟩ | ⟨g,cap,cur,rfl,_⟩
 ·omega
 exact h _ _ _ _ hO2 hgrow hat
end
theorem St {E:TypeId} {S:Nat→Prop} {B:Nat} {w:World} {v:Value} {bs:Bs} {css:List (List Value)} (h:Own Xz E S B w v bs css):(v=.slice none 0 0∧bs=[])∨∃ g cap,v=.slice (some ⟨g,0,none⟩) bs.length cap∧∀ j (hj:j<bs.length),w.cell? ((⟨g,0,none⟩:Addr).add j)=some (.int .u8 (bs[j].toNat:Int)):=by
 rcases h.row.2 with ⟨hv,h0⟩ | ⟨g,cap,cur,hv,_⟩
 ·exact .inl ⟨hv,List.eq_nil_of_length_eq_zero h0⟩
 refine .inr ⟨g,cap,hv,fun j hj=>?_⟩
 refine h.row.cells (g:=g) (by rw [hv];rfl) j _ ?_
 have hc:css[j]?=some [.int .u8 (bs[j].toNat:Int)]:=by
  have h1:=Qx (l:=css) (i:=j) (by rw [h.cs.len];exact hj)
  have:=h.cs.R j _ _ h1 (Qx hj)
  rw [h1];exact congrArg some this
 have:=Yg (k:=1) h.cs.all hc (j:=0) (u:=.int .u8 (bs[j].toNat:Int)) rfl
 simpa using this
theorem conv_own {E:TypeId} {S:Nat→Prop} {B:Nat} {w:World} {v:Value} {bs:Bs} {css:List (List Value)} (h:Own Xz E S B w v bs css):(convert 143 9 v).run Tryz.prog w=.ok (.string ⟨bs.toArray⟩) w:=by
 rcases St h with ⟨rfl,rfl⟩ | ⟨g,cap,rfl,hc⟩
 ·exact Lib.run_convert_nil_bytes w 143 9 5 0 Tryz.underlying143 Tryz.underlying5 Tryz.underlying9
 exact run_convert_bytes_back w 143 9 5 ⟨g,0,none⟩ cap bs Tryz.underlying143 Tryz.underlying5 Tryz.underlying9 hc
structure Ft where
 code:Int
 table:Bs
 row:Val
 other:Val
def Ft.zero:Ft:=⟨0,[],Val.zero,Val.zero⟩
def Ba (S:Nat→Prop) (w:World) (cs:List Value) (f:Ft):Prop:=∃ c1 c2,cs=.int .i64 f.code::sv f.table::(c1++c2)∧f.table.length≤1000000∧Qh S w c1 f.row∧Qh S w c2 f.other
theorem Ba.move {S S':Nat→Prop} {w w':World} {cs:List Value} {f:Ft} (h:Ba S w cs f) (hA:Vm S w w') (hS:∀ b,b<w.heap.size→S b→S' b):Ba S' w' cs f:=by
 obtain ⟨c1,c2,rfl,h1,h2,h3⟩:=h
 exact ⟨c1,c2,rfl,h1,h2.move hA hS,h3.move hA hS⟩
def Ka (S:Nat→Prop) (w:World) (f:Ft) (e:Ending) (w':World):Prop:=∃ cs',e=.returned (.agg cs'.toArray)∧Ba S w' cs' f∧Below w.heap.size w w'
def fcs (c:Int) (t:ByteArray) (r:Val) (o:Val) (p3:Option Addr) (k3:Nat) (p4:Option Addr) (k4:Nat) (q3:Option Addr) (l3:Nat) (q4:Option Addr) (l4:Nat):List Value:=
 [.int .i64 c,.string t,.int .i64 r.kind,.int .i64 r.n,.string ⟨r.s.toArray⟩,.slice p3 r.names.length k3,.slice p4 r.kids.length k4,.int .i64 o.kind,.int .i64 o.n,.string ⟨o.s.toArray⟩,.slice q3 o.names.length l3,.slice q4 o.kids.length l4]
theorem U5 {S:Nat→Prop} {w:World} {cs:List Value} {f:Ft} (h:Ba S w cs f):∃ p3 k3 p4 k4 q3 l3 q4 l4,cs=fcs f.code ⟨f.table.toArray⟩ f.row f.other p3 k3 p4 k4 q3 l3 q4 l4∧f.table.length≤1000000∧Qh S w (vcs f.row p3 k3 p4 k4) f.row∧Qh S w (vcs f.other q3 l3 q4 l4) f.other:=by
 obtain ⟨c1,c2,rfl,h1,h2,h3⟩:=h
 obtain ⟨p3,k3,p4,k4,rfl,_⟩:=Qh.cells h2
 obtain ⟨q3,l3,q4,l4,rfl,_⟩:=Qh.cells h3
 exact ⟨p3,k3,p4,k4,q3,l3,q4,l4,rfl,h1,h2,h3⟩
theorem Ug (S:Nat→Prop) (w:World):Ba S w [.int .i64 0,.string ⟨#[]⟩,.int .i64 0,.int .i64 0,.string ⟨#[]⟩,.slice none 0 0,.slice none 0 0,.int .i64 0,.int .i64 0,.string ⟨#[]⟩,.slice none 0 0,.slice none 0 0] Ft.zero:=
 ⟨_,_,rfl,by simp [Ft.zero],Zo S w,Zo S w⟩
end Go.Proofs.YtppbaladeefnkaaGreatDoor
