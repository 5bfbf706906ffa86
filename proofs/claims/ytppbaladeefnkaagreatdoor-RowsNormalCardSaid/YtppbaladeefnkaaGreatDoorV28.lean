import Derived.Test.YtppbaladeefnkaaGreatDoorV26
import Derived.Test.YtppbaladeefnkaaGreatDoorV27
set_option maxRecDepth 100000
set_option maxHeartbeats 400000000
namespace Go.Proofs.YtppbaladeefnkaaGreatDoor
open Go.RowKit Go.Shelf Go.Lib Tryz
def Ju (r s:Rel):Bool:=eqL eqv r.rows s.rows&&decide (r.table=s.table)
theorem L8 {S S':Nat→Prop} {av bv:Value} {a b:List Val} {wr:World} (ha:Sl Ql S wr av a) (hb:Sl Ql S' wr bv b):∀ n os,Calls prog 13 #[av,bv] (Sort.grow (wr.drewN n) os) fun e w'=>e=.returned (.bool (eqL eqv a b))∧Gr (Sort.grow (wr.drewN n) os) w':=
 fun _ _=>Jp S S' av bv a b _ (ha.below (Z7 _ _ _).bl) (hb.below (Z7 _ _ _).bl)
theorem Nv (S S':Nat→Prop) (av bv:Value) (a b:List Rel) (w:World) (ha:Sl Z0 S w av a) (hb:Sl Z0 S' w bv b):
  Calls prog 21 #[av,bv] w fun e w'=>e=.returned (.bool (eqL Ju a b))∧Gr w w':=by
 obtain ⟨pa,ca,rfl,hla⟩:=ha.len
 obtain ⟨pb,cb,rfl,hlb⟩:=hb.len
 have HA:=Qq ha;have HB:=Qq hb
 have mixed:prog.follows .mixedOrders=true:=by kernel_rfl
 obtain ⟨r,hr⟩:=eX (eqL Ju a b)
 rw [hr]
 have HR:=Qq hr
 clear ha hb hr
 by_cases hlen:a.length=b.length
 ·obtain ⟨n,hn⟩:=eX (a.length)
  have hm:b.length=n:=by omega
  have HN:=Qq hn;have HM:=Qq hm
  rw [hn] at HA hla ⊢
  rw [hm] at HB hlb ⊢
  have hq:((n:Int) != (n:Int))=false:=by simp
  clear hn hm hlen
  go_enter func21,ntmps21
  go_wp2_with fail
  go_loopw [5,6] (fun i _ wr=>∃ k:Nat,k≤n∧i=.int .i64 k∧Aside (eqL Ju (a.drop k) (b.drop k)=r)∧Aside (Gr w wr)) (fun i _ _=>n - (intOf i).toNat)
  case atStart=>exact ⟨0,Q8 _,rfl,HR.out,Gr.refl _⟩
  obtain ⟨k,hk,rfl,A,hG⟩:=hrel
  have HG:=Qq (show Gr w wr from hG);have HE:=Qq (show eqL Ju (a.drop k) (b.drop k)=r from A)
  clear hG A
  by_cases hlt:k<n
  ·have hi1:(0:Int)≤(k:Int):=by omega
   have hi2:(k:Int)<(n:Int):=by omega
   obtain ⟨x,hx⟩:∃ x,a[k]?=some x:=⟨_,Qx (by rw [HN.out];exact hlt)⟩
   obtain ⟨y,hy⟩:∃ y,b[k]?=some y:=⟨_,Qx (by rw [HM.out];exact hlt)⟩
   obtain ⟨ga,oa,_,rfl,hga,_,_,⟨va,rfl,_,hva⟩,hca⟩:=(HA.out.below HG.out.bl).elem hx
   obtain ⟨gb,ob,_,rfl,hgb,_,_,⟨vb,rfl,_,hvb⟩,hcb⟩:=(HB.out.below HG.out.bl).elem hy
   have hcg:=L8 hva hvb
   have d0:=hca 0 _ rfl;have d1:=hca 1 _ rfl;have e0:=hcb 0 _ rfl;have e1:=hcb 1 _ rfl
   rw [show Z0.k=2 from rfl] at d0 d1 e0 e1
   rw [Nat.add_zero] at d0 e0
   obtain ⟨qa,qca,rfl,_⟩:=hva.len
   obtain ⟨qb,qcb,rfl,_⟩:=hvb.len
   have D1:=Qs hga d1;have E1:=Qs hgb e1
   have D0:=Qs hga d0;have E0:=Qs hgb e0
   have hst:=L0 Ju hx hy
   rw [HE.out] at hst
   rw [show Ju x y=(eqL eqv x.rows y.rows&&decide (x.table=y.table)) from rfl] at hst
   generalize eqL eqv x.rows y.rows=c at hcg hst
   unfold sv at d0 e0 D0 E0
   have HST:=Qq hst
   clear hx hy hva hvb d0 d1 e0 e1 hst hca hcb
   go_wp2_with fail
   go_quiet_grown (first | (go_at_call 13;refine Calls.grown_of (hcg _ _)))
   cases c
   ·have hr0:r=false:=by rw [HST.out];simp
    subst hr0
    go_wp2_with fail
    go_quiet (fail)
    go_wp2_with fail
    go_ret
    exact ⟨rfl,(HG.out.thn (Z7 _ _ _)).thn ⟨_,#[],by rw [Sort.grow_empty]⟩⟩
   by_cases he:x.table=y.table
   ·have hq:(x.table==y.table)=true:=by rw [beq_iff_eq];exact he
    have hst2:eqL Ju (a.drop (k+1)) (b.drop (k+1))=r:=by rw [HST.out];simp [he]
    have HST2:=Qq hst2
    clear hst2 he
    go_wp2_with fail
    go_quiet (fail)
    go_wp2_with fail
    go_roundw
    case measure=>simp [intOf];omega
    case rel=>exact ⟨k+1,by omega,by go_num,HST2.out,(HG.out.thn (Z7 _ _ _)).thn ⟨_,#[],by rw [Sort.grow_empty]⟩⟩
   have hq:(x.table==y.table)=false:=by rw [← Bool.not_eq_true,beq_iff_eq];exact he
   have hr0:r=false:=by rw [HST.out];simp [he]
   subst hr0
   clear he
   go_wp2_with fail
   go_quiet (fail)
   go_wp2_with fail
   go_ret
   exact ⟨rfl,(HG.out.thn (Z7 _ _ _)).thn ⟨_,#[],by rw [Sort.grow_empty]⟩⟩
  have hltz:¬ (k:Int)<(n:Int):=by omega
  have:k=n:=by omega
  subst this
  have hr0:r=true:=by
   rw [← HE.out,List.drop_eq_nil_of_le (by rw [HN.out];exact Q9 _),List.drop_eq_nil_of_le (by rw [HM.out];exact Q9 _)];rfl
  subst hr0
  go_wp2_with fail
  go_ret
  exact ⟨rfl,HG.out⟩
 have hr0:r=false:=by rw [← HR.out];exact Ud Ju a b hlen
 subst hr0
 have hq:((a.length:Int) != (b.length:Int))=true:=by rw [bne_iff_ne];omega
 clear hlen
 go_enter func21,ntmps21
 go_wp2_with fail
 go_ret
 exact ⟨rfl,Gr.refl _⟩
theorem M2 (S:Nat→Prop) (v:Value) (l:List Int) (k:Nat) (two ref third:Bool) (w:World) (hs:Y6 S w v l) (hi:V9 l)
  (hC:∀ W,Below w.heap.size w W→Calls prog 35 #[v,.int .i64 0] W (Vi W (Gen.check k)))
  (h1:two=(Zp l 1 3==0)) (h2:ref=decide (0<Zp l 2 3)) (h3:third=(Zp l 3 2==0)):
  Calls prog 7 #[v] w (NewSc w (Gen.schema k two ref third)):=by
 have HP:=Qq (fun (i:Nat) (m:Int) (hm:1≤m) (hm2:m≤1000000000) W (hb:Below w.heap.size w W)=>Zt S v l i m W (hs.below hb) hi hm hm2)
 have HC:=Qq hC
 obtain ⟨z1,hz1⟩:=eX (Zp l 1 3)
 obtain ⟨z2,hz2⟩:=eX (Zp l 2 3)
 obtain ⟨z3,hz3⟩:=eX (Zp l 3 2)
 have HP1:Hid (∀ W,Below w.heap.size w W→Calls prog 26 #[v,.int .i64 1,.int .i64 3] W fun e w'=>e=.returned (.int .i64 z1)∧W=w'):=Qq (fun W hb=>by have:=HP.out 1 3 (by omega) (by omega) W hb;rw [hz1] at this;exact this)
 have HP2:Hid (∀ W,Below w.heap.size w W→Calls prog 26 #[v,.int .i64 2,.int .i64 3] W fun e w'=>e=.returned (.int .i64 z2)∧W=w'):=Qq (fun W hb=>by have:=HP.out 2 3 (by omega) (by omega) W hb;rw [hz2] at this;exact this)
 have HP3:Hid (∀ W,Below w.heap.size w W→Calls prog 26 #[v,.int .i64 3,.int .i64 2] W fun e w'=>e=.returned (.int .i64 z3)∧W=w'):=Qq (fun W hb=>by have:=HP.out 3 2 (by omega) (by omega) W hb;rw [hz3] at this;exact this)
 rw [hz1] at h1;rw [hz2] at h2;rw [hz3] at h3
 have H1:=Qq h1;have H2:=Qq h2;have H3:=Qq h3
 obtain ⟨p,cap,rfl,_⟩:=hs.len
 clear hs hi hC h1 h2 h3 HP hz1 hz2 hz3
 obtain ⟨i0,j1,j2,j3,j4⟩:=Za (P:=prog) (t:=37) (z:=.agg zT) (n:=13) (b:=224) (by kernel_rfl)
 have HJ:=Qq j1;have HJ2:=Qq j2;have HJ3:=Qq j3;have HJ4:=Qq j4
 clear j1 j2 j3 j4
 go_enter func7,ntmps7
 go_upto_region 4 with fail
 generalize hW_:World.alloc (World.alloc (World.alloc (World.alloc (World.alloc w _) _) _) _) _=W3
 have hbW3:=eqB hW_ (Zq (Zq (Zq (Zq (Qn w _) _) _) _) _)
 have hzW3:W3.heap.size=w.heap.size+5:=by rw [← hW_];simp
 have g0:=eqH (b:=w.heap.size) hW_ (Qi (Qi (Qi (Qi (Z8 rfl _) _) _) _) _)
 have g1:=eqH (b:=w.heap.size+1) hW_ (Qi (Qi (Qi (Z8 (by simp) _) _) _) _)
 have g2:=eqH (b:=w.heap.size+1+1) hW_ (Qi (Qi (Z8 (by simp) _) _) _)
 have g3:=eqH (b:=w.heap.size+1+1+1) hW_ (Qi (Z8 (by simp) _) _)
 have g4:=eqH (b:=w.heap.size+1+1+1+1) hW_ (Z8 (by simp) _)
 clear hW_
 have HC3:=Qq (HC.out (W3.alloc (.cells #[.string ⟨#[97]⟩] 9)) (Zq hbW3 _))
 have hk:=Z8 rfl (W:=W3) (.cells #[.string ⟨#[97]⟩] 9)
 have HZ3:=Qq hzW3
 have G0:=Qq g0;have G1:=Qq g1;have G2:=Qq g2;have G3:=Qq g3;have G4:=Qq g4;have GK:=Qq hk;have HB3:=Qq hbW3
 clear g0 g1 g2 g3 g4 hk hbW3 hzW3
 go_upto_region 5 with (go_at_call 35;refine HC3.out.mono ?_;rintro e w5 ⟨cs5,rfl,hex5,hb5⟩;obtain ⟨ek9,es9,en9,et9,e19,f19,g19,e29,f29,g29,e39,f39,g39,ea9,ez9,hcs5⟩:=Z6.cells hex5;subst hcs5;have HEx:=Qq hex5;have HB5:=Qq hb5;clear hex5 hb5)
 have hsz5:w.heap.size+6≤w5.heap.size:=by have:=HB5.out.size;have:=HZ3.out;simp at *;omega
 have hsz35:W3.heap.size<w5.heap.size:=by have:=HB5.out.size;simp at this;omega
 have q0:=U9 HB5.out (by simp;have:=HZ3.out;omega) (Qi G0.out _);have q1:=U9 HB5.out (by simp;have:=HZ3.out;omega) (Qi G1.out _);have q2:=U9 HB5.out (by simp;have:=HZ3.out;omega) (Qi G2.out _);have q3:=U9 HB5.out (by simp;have:=HZ3.out;omega) (Qi G3.out _);have q4:=U9 HB5.out (by simp;have:=HZ3.out;omega) (Qi G4.out _);have qk:=U9 HB5.out (by simp) GK.out
 have u0:=Qf q0;have u1:=Qf q1;have u2:=Qf q2;have u4:=Qf q4
 have HBw5:=Qq ((Zq HB3.out _).thn HB5.out)
 have Q0:=Qq q0;have Q1:=Qq q1;have Q2:=Qq q2;have Q3:=Qq q3;have Q4:=Qq q4;have QK:=Qq qk
 obtain ⟨a0,a1,a2,a3,a4⟩:=row5 q1
 obtain ⟨c0,c1,c2,c3,c4⟩:=row5 q2
 clear q0 q1 q2 q3 q4 qk
 go_upto_if 35 with (go_at_call 26;refine (HP1.out _ (Zq (Zq HBw5.out _) _)).mono ?_;rintro e w' ⟨rfl,rfl⟩)
 generalize hW_:World.alloc (World.alloc w5 _) _=W6
 have hbW6:=eqB hW_ (Zq (Qn w5 _) _)
 have hzW6:W6.heap.size=w5.heap.size+2:=by rw [← hW_];simp
 have k0:=eqH (b:=w5.heap.size) hW_ (Qi (Z8 rfl _) _)
 have k1:=eqH (b:=w5.heap.size+1) hW_ (Z8 (by simp) _)
 clear hW_
 have HK0:=Qq k0;have HK1:=Qq k1;have HB6:=Qq hbW6;have HZ6:=Qq hzW6
 have hlt6:w5.heap.size+1<W6.heap.size:=by omega
 clear k0 k1 hbW6 hzW6
 go_cut [] from 34 (fun wx=>∃ kp kn kc,wx.heap[w5.heap.size]?=some (.cells #[.string ⟨#[116]⟩,.slice (some ⟨w5.heap.size+1,0,none⟩) 5 5,.slice kp kn kc,.slice none 0 0,.int .i64 ek9,.string es9,.int .i64 en9,.string et9,.slice e19 f19 g19,.slice e29 f29 g29,.slice e39 f39 g39,.int .i64 ea9,.int .i64 ez9] 37 (0,0))∧wx.heap[w5.heap.size+1]?=some (.cells #[.string ⟨#[97]⟩,.int .i64 0,.string ⟨#[]⟩,.int .i64 0,.slice none 0 0,.slice none 0 0,.string ⟨#[98]⟩,.int .i64 0,.string ⟨#[]⟩,.int .i64 0,.slice none 0 0,.slice none 0 0,.string ⟨#[99]⟩,.int .i64 1,.string ⟨#[]⟩,.int .i64 0,.slice none 0 0,.slice none 0 0,.string ⟨#[100]⟩,.int .i64 2,.string ⟨#[]⟩,.int .i64 0,.slice none 0 0,.slice none 0 0,.string ⟨#[101]⟩,.int .i64 3,.string ⟨#[72,117,101]⟩,.int .i64 0,.slice none 0 0,.slice none 0 0] 78 (0,0))∧Sl Qp (fun x=>w.heap.size<x∧x≠w5.heap.size) wx (.slice kp kn kc) (if two then [[98],[97]] else [[97]]:List Bs)∧Below w5.heap.size w5 wx∧w5.heap.size+2≤wx.heap.size)
 case first=>
  by_cases ht:z1=0
  ·have h1:two=true:=by rw [H1.out,ht];rfl
   have hq:(z1==0)=true:=by rw [ht];rfl
   have k0:=HK0.out
   have f2:=fA 2 k0;have y2:=rA2 k0
   have hl2:=Qf k0
   have hne2:w5.heap.size≠W6.heap.size:=by omega
   clear k0
   go_wp2_with fail
   go_meet
   generalize hWx:W6.setCell _ _=WX
   have hx:WX.heap[w5.heap.size]?=some (.cells #[.string ⟨#[116]⟩,.slice (some ⟨w5.heap.size+1,0,none⟩) 5 5,.slice (some ⟨W6.heap.size,0,none⟩) 2 2,.slice none 0 0,.int .i64 ek9,.string es9,.int .i64 en9,.string et9,.slice e19 f19 g19,.slice e29 f29 g29,.slice e39 f39 g39,.int .i64 ea9,.int .i64 ez9] 37 (0,0)):=by rw [← hWx,heap_setCell_same _ _ _ _ _ _ HK0.out];rfl
   have hx1:WX.heap[w5.heap.size+1]?=some (.cells #[.string ⟨#[97]⟩,.int .i64 0,.string ⟨#[]⟩,.int .i64 0,.slice none 0 0,.slice none 0 0,.string ⟨#[98]⟩,.int .i64 0,.string ⟨#[]⟩,.int .i64 0,.slice none 0 0,.slice none 0 0,.string ⟨#[99]⟩,.int .i64 1,.string ⟨#[]⟩,.int .i64 0,.slice none 0 0,.slice none 0 0,.string ⟨#[100]⟩,.int .i64 2,.string ⟨#[]⟩,.int .i64 0,.slice none 0 0,.slice none 0 0,.string ⟨#[101]⟩,.int .i64 3,.string ⟨#[72,117,101]⟩,.int .i64 0,.slice none 0 0,.slice none 0 0] 78 (0,0)):=by rw [← hWx,Qg (show w5.heap.size+1≠w5.heap.size by omega)];exact HK1.out
   have hzx:WX.heap.size=W6.heap.size:=by rw [← hWx];simp [World.setCell]
   have hbx:Below w5.heap.size w5 WX:=by rw [← hWx];exact HB6.out.setCell (p:=⟨w5.heap.size,2,none⟩) (Q9 _) _
   rw [h1]
   exact ⟨_,_,_,Qi hx _,Qi hx1 _,Z4 (Z8 hzx _) ⟨by omega,by omega⟩ (Gk _ _ [98] [97] (by simp) (by simp)) rfl rfl (by simp),hbx.alloc (by omega) _,by simp;omega⟩
  have h1:two=false:=by rw [H1.out];simpa using ht
  have hq:(z1==0)=false:=by simpa using ht
  go_wp2_with fail
  go_meet
  rw [h1]
  exact ⟨_,_,_,HK0.out,HK1.out,Z4 (U9 HB6.out hsz35 QK.out) ⟨by have:=HZ3.out;omega,by omega⟩ (Jv [97] (by simp)) rfl rfl (by simp),HB6.out,by omega⟩
 obtain ⟨kp,kn,kc,hT,hCo,hKy,hB,hZ⟩:=hcut
 obtain ⟨w7,rfl⟩:∃ w7,w7=wc:=⟨_,rfl⟩
 have HT:=Qq hT;have HCo:=Qq hCo;have HKy:=Qq hKy;have HB7:=Qq hB;have hz7:w5.heap.size+2≤w7.heap.size:=hZ
 have HBw7:=Qq (HBw5.out.thn hB)
 have q1:=U9 hB u1 Q1.out;have q2:=U9 hB u2 Q2.out;have q4:=U9 hB u4 Q4.out
 have t0:=Qf q1;have t2:=Qf q2
 clear a0 a1 a2 a3 a4 c0 c1 c2 c3 c4 hT hCo hKy hB hZ u0 u1 u2 u4
 obtain ⟨a0,a1,a2,a3,a4⟩:=row5 q1
 obtain ⟨c0,c1,c2,c3,c4⟩:=row5 q2
 have Q17:=Qq q1;have Q47:=Qq q4
 clear q1 q2 q4
 go_upto_if 48 with (go_at_call 26;refine (HP2.out _ (Zq (Zq (Zq HBw7.out _) _) _)).mono ?_;rintro e w' ⟨rfl,rfl⟩)
 generalize hW_:World.alloc (World.alloc (World.alloc w7 _) _) _=W9
 have hbW9:=eqB hW_ (Zq (Zq (Qn w7 _) _) _)
 have hzW9:W9.heap.size=w7.heap.size+3:=by rw [← hW_];simp
 have k2:=eqH (b:=w7.heap.size) hW_ (Qi (Qi (Z8 rfl _) _) _)
 have k3:=eqH (b:=w7.heap.size+1) hW_ (Qi (Z8 (by simp) _) _)
 have k4:=eqH (b:=w7.heap.size+1+1) hW_ (Z8 (by simp) _)
 clear hW_
 have HK2:=Qq k2;have HK3:=Qq k3;have HK4:=Qq k4;have HB9:=Qq hbW9;have HZ9:=Qq hzW9
 have HT9:=Qq (kB hbW9 HT.out)
 have hz9:w7.heap.size+3≤W9.heap.size:=by omega
 have HB59:=Qq (HB7.out.trans (hbW9.mono (by omega)))
 clear k2 k3 k4 hbW9 hzW9
 go_cut [] from 47 (fun wx=>∃ rp rn rc,wx.heap[w5.heap.size]?=some (.cells #[.string ⟨#[116]⟩,.slice (some ⟨w5.heap.size+1,0,none⟩) 5 5,.slice kp kn kc,.slice rp rn rc,.int .i64 ek9,.string es9,.int .i64 en9,.string et9,.slice e19 f19 g19,.slice e29 f29 g29,.slice e39 f39 g39,.int .i64 ea9,.int .i64 ez9] 37 (0,0))∧Sl Jb (fun x=>w.heap.size<x∧x≠w5.heap.size) wx (.slice rp rn rc) (if ref then [⟨[98],[117]⟩] else []:List Rf)∧(∀ c,c≠w5.heap.size→c<W9.heap.size→wx.heap[c]?=W9.heap[c]?)∧Below w5.heap.size w5 wx∧W9.heap.size≤wx.heap.size)
 case first=>
  by_cases ht:0<z2
  ·have h2:ref=true:=by rw [H2.out];simpa using ht
   have k0:=HT9.out
   have f3:=fA 3 k0;have y3:=rA3 k0
   have hl2:=Qf k0
   have hne2:w5.heap.size≠W9.heap.size:=by omega
   clear k0
   go_wp2_with fail
   go_meet
   generalize hWx:W9.setCell _ _=WX
   have hx:WX.heap[w5.heap.size]?=some (.cells #[.string ⟨#[116]⟩,.slice (some ⟨w5.heap.size+1,0,none⟩) 5 5,.slice kp kn kc,.slice (some ⟨W9.heap.size,0,none⟩) 1 1,.int .i64 ek9,.string es9,.int .i64 en9,.string et9,.slice e19 f19 g19,.slice e29 f29 g29,.slice e39 f39 g39,.int .i64 ea9,.int .i64 ez9] 37 (0,0)):=by rw [← hWx,heap_setCell_same _ _ _ _ _ _ HT9.out];rfl
   have hzx:WX.heap.size=W9.heap.size:=by rw [← hWx];simp [World.setCell]
   have hox:∀ c,c≠w5.heap.size→WX.heap[c]?=W9.heap[c]?:=fun c hc=>by rw [← hWx,Qg hc]
   have hbx:Below w5.heap.size w5 WX:=by rw [← hWx];exact HB59.out.setCell (p:=⟨w5.heap.size,3,none⟩) (Q9 _) _
   rw [h2]
   exact ⟨_,_,_,Qi hx _,Z4 (r:=Jb) (xs:=[(⟨[98],[117]⟩:Rf)]) (Z8 hzx _) ⟨by omega,by omega⟩ (Cs.one (r:=Jb) (x:=(⟨[98],[117]⟩:Rf)) (c:=[.string ⟨#[98]⟩,.string ⟨#[117]⟩]) ⟨rfl,by simp,by simp⟩) rfl rfl (by simp),fun c h1 h2=>((Qn WX _).block c (by omega)).trans (hox c h1),hbx.alloc (by omega) _,by simp;omega⟩
  have h2:ref=false:=by rw [H2.out];simpa using ht
  go_wp2_with fail
  go_meet
  rw [h2]
  exact ⟨_,_,_,HT9.out,Sl.nil _ _ _,fun c _ _=>rfl,HB59.out,Q9 _⟩
 obtain ⟨rp,rn,rc,hT,hRf,hoth,hB,hZ⟩:=hcut
 obtain ⟨w10,rfl⟩:∃ w10,w10=wc:=⟨_,rfl⟩
 have hC1:w10.heap[w5.heap.size+1]?=some (.cells #[.string ⟨#[97]⟩,.int .i64 0,.string ⟨#[]⟩,.int .i64 0,.slice none 0 0,.slice none 0 0,.string ⟨#[98]⟩,.int .i64 0,.string ⟨#[]⟩,.int .i64 0,.slice none 0 0,.slice none 0 0,.string ⟨#[99]⟩,.int .i64 1,.string ⟨#[]⟩,.int .i64 0,.slice none 0 0,.slice none 0 0,.string ⟨#[100]⟩,.int .i64 2,.string ⟨#[]⟩,.int .i64 0,.slice none 0 0,.slice none 0 0,.string ⟨#[101]⟩,.int .i64 3,.string ⟨#[72,117,101]⟩,.int .i64 0,.slice none 0 0,.slice none 0 0] 78 (0,0)):=(hoth _ (by omega) (by omega)).trans (kE HB9.out (by omega) HCo.out)
 have hu2:w10.heap[w7.heap.size]?=some (.cells #[.string ⟨#[107]⟩,.int .i64 0,.string ⟨#[]⟩,.int .i64 0,.slice none 0 0,.slice none 0 0,.string ⟨#[110]⟩,.int .i64 1,.string ⟨#[]⟩,.int .i64 0,.slice none 0 0,.slice none 0 0] 78 (0,0)):=(hoth _ (by omega) (by omega)).trans HK2.out
 have hu3:w10.heap[w7.heap.size+1]?=some (.cells #[.string ⟨#[107]⟩] 9 (0,0)):=(hoth _ (by omega) (by omega)).trans HK3.out
 have hu4:w10.heap[w7.heap.size+1+1]?=some (.cells #[.string ⟨#[117]⟩,.slice (some ⟨w7.heap.size,0,none⟩) 2 2,.slice (some ⟨w7.heap.size+1,0,none⟩) 1 1,.slice none 0 0,.int .i64 2,.string ⟨#[]⟩,.int .i64 1,.string ⟨#[]⟩,.slice none 0 0,.slice none 0 0,.slice none 0 0,.int .i64 0,.int .i64 0] 37 (0,0)):=(hoth _ (by omega) (by omega)).trans HK4.out
 have hky:Sl Qp (fun x=>w.heap.size<x∧x≠w5.heap.size) w10 (.slice kp kn kc) (if two then [[98],[97]] else [[97]]:List Bs):=HKy.out.frame (fun c hc hlt=>(hoth c hc.2 (by omega)).trans (HB9.out.block c hlt))
 have hue:=U9 hB (Qf Q4.out) Q4.out;have hwh:=U9 hB (Qf Q1.out) Q1.out;have hct:=U9 hB (Qf Q3.out) Q3.out;have hr0:=U9 hB (Qf Q0.out) Q0.out
 have hTt:Qt.R (fun x=>w.heap.size<x∧x<w10.heap.size) w10 [.string ⟨#[116]⟩,.slice (some ⟨w5.heap.size+1,0,none⟩) 5 5,.slice kp kn kc,.slice rp rn rc,.int .i64 ek9,.string es9,.int .i64 en9,.string et9,.slice e19 f19 g19,.slice e29 f29 g29,.slice e39 f39 g39,.int .i64 ea9,.int .i64 ez9] ⟨[116],[⟨[97],Gen.whole⟩,⟨[98],Gen.whole⟩,⟨[99],Gen.text⟩,⟨[100],Gen.yesno⟩,⟨[101],Gen.hueT⟩],if two then [[98],[97]] else [[97]],if ref then [⟨[98],[117]⟩] else [],Gen.check k⟩:=by
  refine ⟨_,_,_,_,rfl,by simp,?_,hky.mono (fun c hb h=>⟨h.1,hb⟩),hRf.mono (fun c hb h=>⟨h.1,hb⟩),(HEx.out.move (.of_below hB) (fun c hb h=>⟨by have h':(W3.alloc (.cells #[.string ⟨#[97]⟩] 9)).heap.size≤c:=h;have:=HZ3.out;simp at h';omega,by omega⟩))⟩
  exact Z4 hC1 ⟨by omega,by omega⟩ (((((Cs.one (r:=Y0) (Xc [97] 0 [] (by simp) (by simp))).app (Cs.one (r:=Y0) (Xc [98] 0 [] (by simp) (by simp)))).app (Cs.one (r:=Y0) (Xc [99] 1 [] (by simp) (by simp)))).app (Cs.one (r:=Y0) (Xc [100] 2 [] (by simp) (by simp)))).app (Cs.one (r:=Y0) (Xc [101] 3 [72,117,101] (by simp) (by simp)))) rfl rfl (by simp)
 have hTu:Qt.R (fun x=>w.heap.size<x∧x<w10.heap.size) w10 [.string ⟨#[117]⟩,.slice (some ⟨w7.heap.size,0,none⟩) 2 2,.slice (some ⟨w7.heap.size+1,0,none⟩) 1 1,.slice none 0 0,.int .i64 2,.string ⟨#[]⟩,.int .i64 1,.string ⟨#[]⟩,.slice none 0 0,.slice none 0 0,.slice none 0 0,.int .i64 0,.int .i64 0] ⟨[117],[⟨[107],Gen.whole⟩,⟨[110],Gen.text⟩],[[107]],[],Gen.yes⟩:=by
  refine ⟨_,_,_,_,rfl,by simp,?_,?_,Sl.nil _ _ _,Hq _ _ none none none 0 0 0⟩
  ·exact Z4 hu2 ⟨by omega,by omega⟩ ((Cs.one (r:=Y0) (Xc [107] 0 [] (by simp) (by simp))).app (Cs.one (r:=Y0) (Xc [110] 1 [] (by simp) (by simp)))) rfl rfl (by simp)
  exact Z4 hu3 ⟨by omega,by omega⟩ (Jv [107] (by simp)) rfl rfl (by simp)
 have HTt:=Qq hTt;have HTu:=Qq hTu;have HB10:=Qq hB;have HCt:=Qq hct;have HR0:=Qq hr0;have HWh:=Qq hwh
 have HBw10:=Qq (HBw5.out.thn hB)
 have z0:=Qf hT;have z2:=Qf hu4;have z4:=Qf hue;have z5:=Qf hr0
 clear a0 a1 a2 a3 a4 c0 c1 c2 c3 c4 hTt hTu hC1 hu2 hu3 hky hRf hoth hB hct hr0 hwh t0 t2
 obtain ⟨p0,p1,p2,p3,p4,p5,p6,p7,p8,p9,p10,p11,p12⟩:=row13 hT
 obtain ⟨q0,q1,q2,q3,q4,q5,q6,q7,q8,q9,q10,q11,q12⟩:=row13 hu4
 obtain ⟨m0,m1⟩:=row2 hue
 clear hT hu4 hue
 go_upto_if 60 with (go_at_call 26;refine (HP3.out _ (Zq (Zq (Zq HBw10.out _) _) _)).mono ?_;rintro e w' ⟨rfl,rfl⟩)
 generalize hW_:World.alloc (World.alloc (World.alloc w10 _) _) _=W12
 have hbW12:=eqB hW_ (Zq (Zq (Qn w10 _) _) _)
 have hzW12:W12.heap.size=w10.heap.size+3:=by rw [← hW_];simp
 have k5:=eqH (b:=w10.heap.size) hW_ (Qi (Qi (Z8 rfl _) _) _)
 have k6:=eqH (b:=w10.heap.size+1) hW_ (Qi (Z8 (by simp) _) _)
 have k7:=eqH (b:=w10.heap.size+1+1) hW_ (Z8 (by simp) _)
 clear hW_
 have HK5:=Qq k5;have HK6:=Qq k6;have HK7:=Qq k7;have HB12:=Qq hbW12;have HZ12:=Qq hzW12
 have HBw12:=Qq (HBw10.out.thn hbW12)
 have hz12:w10.heap.size+3≤W12.heap.size:=by omega
 have hr0:=kE hbW12 z5 HR0.out
 have y0:=Qk _ _ 0 _ _ _ hr0;have y1:=Qk _ _ 1 _ _ _ hr0;have fy0:=fA 0 hr0;have fy1:=fA 1 hr0
 simp only [List.getElem?_toArray,List.getElem?_cons_zero,List.getElem?_cons_succ] at y0 y1
 have HR12:=Qq hr0
 clear hbW12 hzW12 hr0 p0 p1 p2 p3 p4 p5 p6 p7 p8 p9 p10 p11 p12 q0 q1 q2 q3 q4 q5 q6 q7 q8 q9 q10 q11 q12 m0 m1
 by_cases ht:z3=0
 ·have h3:third=true:=by rw [H3.out,ht];rfl
  have hq:(z3==0)=true:=by rw [ht];rfl
  have hwh:=kB HB12.out HWh.out
  have hwl:=Qf hwh
  have k7:=HK7.out
  clear y0 y1 fy0 fy1
  obtain ⟨a0,a1,a2,a3,a4⟩:=row5 hwh
  obtain ⟨s0,s1⟩:=row2 k7
  have hsl:=Qf k7
  clear hwh k7
  go_upto_region 14 with fail
  generalize hW_:World.alloc (World.alloc (World.alloc (World.alloc W12 _) _) _) _=W13
  have hbW13:=eqB hW_ (Zq (Zq (Zq (Qn W12 _) _) _) _)
  have hzW13:W13.heap.size=W12.heap.size+4:=by rw [← hW_];simp
  have k8:=eqH (b:=W12.heap.size) hW_ (Qi (Qi (Qi (Z8 rfl _) _) _) _)
  have k9:=eqH (b:=W12.heap.size+1) hW_ (Qi (Qi (Z8 (by simp) _) _) _)
  have k10:=eqH (b:=W12.heap.size+1+1) hW_ (Qi (Z8 (by simp) _) _)
  have k11:=eqH (b:=W12.heap.size+1+1+1) hW_ (Z8 (by simp) _)
  clear hW_
  have HB13:=Qq hbW13;have HZ13:=Qq hzW13;have HK8:=Qq k8;have HK9:=Qq k9;have HK10:=Qq k10
  have HBw13:=Qq (HBw12.out.thn hbW13)
  have hz13:W12.heap.size+4≤W13.heap.size:=by omega
  have hk7:=kE hbW13 hsl HK7.out
  have hk6:=kB hbW13 HK6.out
  have hr13:=kB hbW13 HR12.out
  have HK7':=Qq hk7;have HR13:=Qq hr13
  have hb1013:=HB12.out.thn hbW13
  have hTt':Qt.R (fun x=>(fun x=>w.heap.size<x∧x≠w10.heap.size+1+1) x∧x≠w10.heap.size+1) W13 [.string ⟨#[116]⟩,.slice (some ⟨w5.heap.size+1,0,none⟩) 5 5,.slice kp kn kc,.slice rp rn rc,.int .i64 ek9,.string es9,.int .i64 en9,.string et9,.slice e19 f19 g19,.slice e29 f29 g29,.slice e39 f39 g39,.int .i64 ea9,.int .i64 ez9] ⟨[116],[⟨[97],Gen.whole⟩,⟨[98],Gen.whole⟩,⟨[99],Gen.text⟩,⟨[100],Gen.yesno⟩,⟨[101],Gen.hueT⟩],if two then [[98],[97]] else [[97]],if ref then [⟨[98],[117]⟩] else [],Gen.check k⟩:=Qt.mono (Qt.frame HTt.out (fun c hc hlt=>hb1013.block c hlt)) (fun c _ h=>⟨⟨h.1,by have:=h.2;omega⟩,by have:=h.2;omega⟩)
  have hTu':Qt.R (fun x=>(fun x=>w.heap.size<x∧x≠w10.heap.size+1+1) x∧x≠w10.heap.size+1) W13 [.string ⟨#[117]⟩,.slice (some ⟨w7.heap.size,0,none⟩) 2 2,.slice (some ⟨w7.heap.size+1,0,none⟩) 1 1,.slice none 0 0,.int .i64 2,.string ⟨#[]⟩,.int .i64 1,.string ⟨#[]⟩,.slice none 0 0,.slice none 0 0,.slice none 0 0,.int .i64 0,.int .i64 0] ⟨[117],[⟨[107],Gen.whole⟩,⟨[110],Gen.text⟩],[[107]],[],Gen.yes⟩:=Qt.mono (Qt.frame HTu.out (fun c hc hlt=>hb1013.block c hlt)) (fun c _ h=>⟨⟨h.1,by have:=h.2;omega⟩,by have:=h.2;omega⟩)
  have HO13:=Qq (Hw (r:=Qt) (S:=(fun x=>w.heap.size<x∧x≠w10.heap.size+1+1)) (B:=w10.heap.size) (n:=2) (xs:=[⟨[116],[⟨[97],Gen.whole⟩,⟨[98],Gen.whole⟩,⟨[99],Gen.text⟩,⟨[100],Gen.yesno⟩,⟨[101],Gen.hueT⟩],if two then [[98],[97]] else [[97]],if ref then [⟨[98],[117]⟩] else [],Gen.check k⟩,⟨[117],[⟨[107],Gen.whole⟩,⟨[110],Gen.text⟩],[[107]],[],Gen.yes⟩]) hk6 (Nat.le_succ _) ((Cs.one (r:=Qt) hTt').app (Cs.one (r:=Qt) hTu')) rfl rfl (by simp))
  have hV:Qt.R (But (fun x=>w.heap.size<x∧x≠w10.heap.size+1+1) (.slice (some ⟨w10.heap.size+1,0,none⟩) 2 2)) W13 [.string ⟨#[118]⟩,.slice (some ⟨W12.heap.size,0,none⟩) 2 2,.slice (some ⟨W12.heap.size+1,0,none⟩) 1 1,.slice (some ⟨W12.heap.size+1+1,0,none⟩) 2 2,.int .i64 2,.string ⟨#[]⟩,.int .i64 1,.string ⟨#[]⟩,.slice none 0 0,.slice none 0 0,.slice none 0 0,.int .i64 0,.int .i64 0] ⟨[118],[⟨[120],Gen.whole⟩,⟨[121],Gen.whole⟩],[[120]],[⟨[121],[118]⟩,⟨[120],[117]⟩],Gen.yes⟩:=by
   refine ⟨_,_,_,_,rfl,by simp,?_,?_,?_,Hq _ _ none none none 0 0 0⟩
   ·exact Z4 HK8.out ⟨⟨by omega,by omega⟩,fun e=>by have e':W12.heap.size=w10.heap.size+1:=Qb e;omega⟩ ((Cs.one (r:=Y0) (Xc [120] 0 [] (by simp) (by simp))).app (Cs.one (r:=Y0) (Xc [121] 0 [] (by simp) (by simp)))) rfl rfl (by simp)
   ·exact Z4 HK9.out ⟨⟨by omega,by omega⟩,fun e=>by have e':W12.heap.size+1=w10.heap.size+1:=Qb e;omega⟩ (Jv [120] (by simp)) rfl rfl (by simp)
   exact Z4 (r:=Jb) (xs:=[(⟨[121],[118]⟩:Rf),⟨[120],[117]⟩]) HK10.out ⟨⟨by omega,by omega⟩,fun e=>by have e':W12.heap.size+1+1=w10.heap.size+1:=Qb e;omega⟩ ((Cs.one (r:=Jb) (x:=(⟨[121],[118]⟩:Rf)) (c:=[.string ⟨#[121]⟩,.string ⟨#[118]⟩]) ⟨rfl,by simp,by simp⟩).app (Cs.one (r:=Jb) (x:=(⟨[120],[117]⟩:Rf)) (c:=[.string ⟨#[120]⟩,.string ⟨#[117]⟩]) ⟨rfl,by simp,by simp⟩)) rfl rfl (by simp)
  have HV:=Qq hV
  have hl13:w.heap.size<W13.heap.size:=Qf hr13
  have hl13s:w10.heap.size+1+1<W13.heap.size:=Qf hk7
  have hnt:some (w10.heap.size+1+1)≠(Value.slice (some ⟨w10.heap.size+1,0,none⟩) 2 2).ownBlock:=fun e=>by have e':w10.heap.size+1+1=w10.heap.size+1:=Qb e;omega
  have hnr:some w.heap.size≠(Value.slice (some ⟨w10.heap.size+1,0,none⟩) 2 2).ownBlock:=fun e=>by have e':w.heap.size=w10.heap.size+1:=Qb e;omega
  have HNt:=Qq hnt;have HNr:=Qq hnr
  clear a0 a1 a2 a3 a4 s0 s1 k8 k9 k10 hbW13 hzW13 hTt' hTu' hV hk6 hr13 hb1013 hnt hnr
  obtain ⟨s0,s1⟩:=row2 hk7
  obtain ⟨v0,v1,v2,v3,v4,v5,v6,v7,v8,v9,v10,v11,v12⟩:=row13 k11
  clear hk7 k11
  go_wp2_with (at_builtin;refine Zm (r:=Qt) (by decide) rfl (.tmp 73) (.tmp 75) _ rfl 37 i0 (.agg zT) 224 underlying24 HJ.out HJ2.out HJ3.out HJ4.out rfl (by omega) (fun x=>w.heap.size<x∧x≠w10.heap.size+1+1) w10.heap.size W13 (.slice (some ⟨w10.heap.size+1,0,none⟩) 2 2) [⟨[116],[⟨[97],Gen.whole⟩,⟨[98],Gen.whole⟩,⟨[99],Gen.text⟩,⟨[100],Gen.yesno⟩,⟨[101],Gen.hueT⟩],if two then [[98],[97]] else [[97]],if ref then [⟨[98],[117]⟩] else [],Gen.check k⟩,⟨[117],[⟨[107],Gen.whole⟩,⟨[110],Gen.text⟩],[[107]],[],Gen.yes⟩] _ [.string ⟨#[118]⟩,.slice (some ⟨W12.heap.size,0,none⟩) 2 2,.slice (some ⟨W12.heap.size+1,0,none⟩) 1 1,.slice (some ⟨W12.heap.size+1+1,0,none⟩) 2 2,.int .i64 2,.string ⟨#[]⟩,.int .i64 1,.string ⟨#[]⟩,.slice none 0 0,.slice none 0 0,.slice none 0 0,.int .i64 0,.int .i64 0] ⟨[118],[⟨[120],Gen.whole⟩,⟨[121],Gen.whole⟩],[[120]],[⟨[121],[118]⟩,⟨[120],[117]⟩],Gen.yes⟩ rfl HO13.out rfl HV.out (by simp [Value.oneCell']) 2 rfl (by omega) (by omega) ?_;intro p14 c14 css14 w14 hO14 hL14;have hs14:=(hL14.other _ hl13s HNt.out).trans HK7'.out;have s0:=Qk _ _ 0 _ _ _ hs14;have s1:=Qk _ _ 1 _ _ _ hs14;have fs1:=fA 1 hs14;have hr14:=(hL14.other _ hl13 HNr.out).trans HR13.out;have y0:=Qk _ _ 0 _ _ _ hr14;have y1:=Qk _ _ 1 _ _ _ hr14;have fy0:=fA 0 hr14;have fy1:=fA 1 hr14;simp only [List.getElem?_toArray,List.getElem?_cons_zero,List.getElem?_cons_succ] at s0 s1 y0 y1;have HS14:=Qq hs14;have HR14:=Qq hr14;have HO14:=Qq hO14;have HL14:=Qq hL14;have hne14:w.heap.size≠w10.heap.size+1+1:=(by omega);clear hs14 hr14 hO14 hL14)
  generalize hWF:((w14.setCell _ _).setCell _ _).setCell _ _=WF
  have hrF:WF.heap[w.heap.size]?=some (.cells #[.slice (some ⟨w10.heap.size,0,none⟩) 1 1,.slice p14 (2+1) c14] 26 (0,0)):=by
   rw [← hWF]
   exact heap_setCell_same _ _ 1 _ _ _ (heap_setCell_same _ _ 0 _ _ _ ((Qg hne14).trans HR14.out))
  have hoF:∀ b,b≠w.heap.size→b≠w10.heap.size+1+1→WF.heap[b]?=w14.heap[b]?:=fun b hb hb2=>by rw [← hWF,Qg hb,Qg hb,Qg hb2]
  have hbF:Below w.heap.size w WF:=by
   rw [← hWF]
   exact ((((HBw13.out.trans (HL14.out.below.mono (by omega))).setCell (p:=⟨w10.heap.size+1+1,1,none⟩) (by show w.heap.size≤w10.heap.size+1+1;omega) _).setCell (p:=⟨w.heap.size,0,none⟩) (Q9 _) _).setCell (p:=⟨w.heap.size,1,none⟩) (Q9 _) _)
  have hlt3:=Qf HCt.out
  have hoth:∀ b,b≠w10.heap.size+1→b<W13.heap.size→w14.heap[b]?=W13.heap[b]?:=fun b hb hlt=>HL14.out.other b hlt (fun e=>hb (Qb e))
  have o5:WF.heap[w10.heap.size]?=_:=(hoF _ (by omega) (by omega)).trans ((hoth _ (by omega) (by omega)).trans (kE HB13.out (by omega) HK5.out))
  have oc:WF.heap[w.heap.size+1+1+1]?=_:=(hoF _ (by omega) (by omega)).trans ((hoth _ (by omega) (by omega)).trans (kE HB13.out (by omega) ((HB12.out.block _ hlt3).trans HCt.out)))
  have hT14:=HO14.out.sl' (S':=(fun x=>w.heap.size<x∧x≠w10.heap.size+1+1)) (by simp) (fun b hb=>by
   rcases HL14.out.at' with e | ⟨g,e,hg⟩
   ·rw [e] at hb
    have e':w10.heap.size+1=b:=Qb hb
    exact ⟨by omega,by omega⟩
   rw [e] at hb
   have e':g=b:=Qb hb
   exact ⟨by omega,by omega⟩) (fun _ _ h=>h)
  have hTF:=(hT14.frame (w':=WF) (fun b hb _=>hoF b (by have:=hb.1;omega) hb.2)).mono (S':=fun b=>w.heap.size≤b) (fun b _ h=>Nat.le_of_lt h.1)
  have cF:=fun j=>Qk _ _ j _ _ _ hrF
  have cF0:=cF 0;have cF1:=cF 1
  simp only [List.getElem?_toArray,List.getElem?_cons_zero,List.getElem?_cons_succ] at cF0 cF1
  refine Q7 (v:=.agg #[.slice (some ⟨w10.heap.size,0,none⟩) 1 1,.slice p14 (2+1) c14]) (by simp [results,results7,go_sem,cF0,cF1]) rfl ⟨[.slice (some ⟨w10.heap.size,0,none⟩) 1 1,.slice p14 (2+1) c14],rfl,⟨_,_,rfl,?_,?_⟩,hbF⟩
  ·refine Z4 (r:=Ke) (xs:=[Gen.hue]) o5 (by show w.heap.size≤_;omega) (Cs.one (r:=Ke) (c:=[.string ⟨#[72,117,101]⟩,.slice (some ⟨w.heap.size+1+1+1,0,none⟩) 2 2]) ⟨_,rfl,by simp [Gen.hue],?_⟩) rfl rfl (by simp)
   exact Z4 (r:=Be) (xs:=Gen.hue.ctors) oc (by show w.heap.size≤_;omega) ((Cs.one (r:=Be) (Lz [82,101,100] false 0 (by simp))).app (Cs.one (r:=Be) (Lz [68,97,114,107] true 0 (by simp)))) rfl rfl (by simp [Gen.hue])
  rw [h3]
  exact hTF
 have h3:third=false:=by rw [H3.out];simpa using ht
 have hq:(z3==0)=false:=by simpa using ht
 have k7:=HK7.out
 obtain ⟨s0,s1⟩:=row2 k7
 clear k7
 go_wp2_with fail
 generalize hWF:(W12.setCell _ _).setCell _ _=WF
 have hrF:WF.heap[w.heap.size]?=some (.cells #[.slice (some ⟨w10.heap.size,0,none⟩) 1 1,.slice (some ⟨w10.heap.size+1,0,none⟩) 2 2] 26 (0,0)):=by
  rw [← hWF]
  exact heap_setCell_same _ _ 1 _ _ _ (heap_setCell_same _ _ 0 _ _ _ HR12.out)
 have hoF:∀ b,b≠w.heap.size→WF.heap[b]?=W12.heap[b]?:=fun b hb=>by rw [← hWF,Qg hb,Qg hb]
 have hbF:Below w.heap.size w WF:=by rw [← hWF];exact (HBw12.out.setCell (p:=⟨w.heap.size,0,none⟩) (Q9 _) _).setCell (p:=⟨w.heap.size,1,none⟩) (Q9 _) _
 have hlt3:=Qf HCt.out
 have o5:=(hoF _ (by omega)).trans HK5.out;have o6:=(hoF _ (by omega)).trans HK6.out
 have oc:=(hoF (w.heap.size+1+1+1) (by omega)).trans (kE HB12.out hlt3 HCt.out)
 have hfr:∀ c,w.heap.size<c∧c<w10.heap.size→WF.heap[c]?=w10.heap[c]?:=fun c hc=>(hoF c (by omega)).trans (HB12.out.block c hc.2)
 have hTt':Qt.R (fun x=>w.heap.size≤x) WF [.string ⟨#[116]⟩,.slice (some ⟨w5.heap.size+1,0,none⟩) 5 5,.slice kp kn kc,.slice rp rn rc,.int .i64 ek9,.string es9,.int .i64 en9,.string et9,.slice e19 f19 g19,.slice e29 f29 g29,.slice e39 f39 g39,.int .i64 ea9,.int .i64 ez9] ⟨[116],[⟨[97],Gen.whole⟩,⟨[98],Gen.whole⟩,⟨[99],Gen.text⟩,⟨[100],Gen.yesno⟩,⟨[101],Gen.hueT⟩],if two then [[98],[97]] else [[97]],if ref then [⟨[98],[117]⟩] else [],Gen.check k⟩:=Qt.mono (Qt.frame HTt.out (fun c hc _=>hfr c hc)) (fun c _ h=>by have:=h.1;show w.heap.size≤c;omega)
 have hTu':Qt.R (fun x=>w.heap.size≤x) WF [.string ⟨#[117]⟩,.slice (some ⟨w7.heap.size,0,none⟩) 2 2,.slice (some ⟨w7.heap.size+1,0,none⟩) 1 1,.slice none 0 0,.int .i64 2,.string ⟨#[]⟩,.int .i64 1,.string ⟨#[]⟩,.slice none 0 0,.slice none 0 0,.slice none 0 0,.int .i64 0,.int .i64 0] ⟨[117],[⟨[107],Gen.whole⟩,⟨[110],Gen.text⟩],[[107]],[],Gen.yes⟩:=Qt.mono (Qt.frame HTu.out (fun c hc _=>hfr c hc)) (fun c _ h=>by have:=h.1;show w.heap.size≤c;omega)
 have cF:=fun j=>Qk _ _ j _ _ _ hrF
 have cF0:=cF 0;have cF1:=cF 1
 simp only [List.getElem?_toArray,List.getElem?_cons_zero,List.getElem?_cons_succ] at cF0 cF1
 refine Q7 (v:=.agg #[.slice (some ⟨w10.heap.size,0,none⟩) 1 1,.slice (some ⟨w10.heap.size+1,0,none⟩) 2 2]) (by simp [results,results7,go_sem,cF0,cF1]) rfl ⟨[.slice (some ⟨w10.heap.size,0,none⟩) 1 1,.slice (some ⟨w10.heap.size+1,0,none⟩) 2 2],rfl,⟨_,_,rfl,?_,?_⟩,hbF⟩
 ·refine Z4 (r:=Ke) (xs:=[Gen.hue]) o5 (by show w.heap.size≤_;omega) (Cs.one (r:=Ke) (c:=[.string ⟨#[72,117,101]⟩,.slice (some ⟨w.heap.size+1+1+1,0,none⟩) 2 2]) ⟨_,rfl,by simp [Gen.hue],?_⟩) rfl rfl (by simp)
  exact Z4 (r:=Be) (xs:=Gen.hue.ctors) oc (by show w.heap.size≤_;omega) ((Cs.one (r:=Be) (Lz [82,101,100] false 0 (by simp))).app (Cs.one (r:=Be) (Lz [68,97,114,107] true 0 (by simp)))) rfl rfl (by simp [Gen.hue])
 rw [h3]
 exact Z4 (r:=Qt) (xs:=[⟨[116],[⟨[97],Gen.whole⟩,⟨[98],Gen.whole⟩,⟨[99],Gen.text⟩,⟨[100],Gen.yesno⟩,⟨[101],Gen.hueT⟩],if two then [[98],[97]] else [[97]],if ref then [⟨[98],[117]⟩] else [],Gen.check k⟩,⟨[117],[⟨[107],Gen.whole⟩,⟨[110],Gen.text⟩],[[107]],[],Gen.yes⟩]) o6 (by show w.heap.size≤_;omega) ((Cs.one (r:=Qt) hTt').app (Cs.one (r:=Qt) hTu')) rfl rfl (by simp)
end Go.Proofs.YtppbaladeefnkaaGreatDoor
