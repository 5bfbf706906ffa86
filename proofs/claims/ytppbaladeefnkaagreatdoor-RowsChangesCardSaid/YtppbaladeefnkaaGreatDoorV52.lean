/- RowsChanges returns true for every input, and each argument reads afterwards as it read before. Condition: when the call begins, the listed package variables hold what the program's own text lays there (tied to that text). -/
import Derived.Test.YtppbaladeefnkaaGreatDoorV28
import Derived.Test.YtppbaladeefnkaaGreatDoorV48
import Derived.Test.YtppbaladeefnkaaGreatDoorV51
import Derived.Test.YtppbaladeefnkaaGreatDoorRows
import Derived.Test.YtppbaladeefnkaaGreatDoorCards
import Derived.Test.YtppbaladeefnkaaGreatDoorTie
set_option maxRecDepth 100000
set_option maxHeartbeats 400000000
namespace Go.Proofs.YtppbaladeefnkaaGreatDoor
open Go.RowKit Go.Shelf Go.Lib _root_.Go.Proofs.Tryz
def N6 (n0:Nat) (w:World) (e:Ending) (w':World):Prop:=∃ l p cap,e=.returned (.slice p l.length cap)∧(∀ r ∈ l,r.rows.length≤8)∧l.length≤n0∧Sl Zl (fun _=>True) w' (.slice p l.length cap) l∧Below w.heap.size w w'
theorem Lm {l:List Rel} (h:∀ r ∈ l,r.rows.length≤8) (x:Bs):(Yv l x).length≤8:=by
 unfold Yv
 cases e:Ym l x with
 | none=>simp
 | some j=>
  unfold Ym at e
  have hl:=(List.findIdx?_eq_some_iff_getElem.1 e).1
  show (l.getD j ⟨[],[]⟩).rows.length≤8
  rw [List.getD_eq_getElem?_getD,Qx hl,Option.getD_some]
  exact h _ (Qd hl)
theorem Dy {A:Type} (p:A→A→Bool) (hp:∀ x,p x x=true):∀ l:List A,eqL p l l=true
 | []=>rfl
 | x::l=>by unfold eqL;rw [hp x,Dy p hp l];rfl
theorem Da (s:Sc) (n0:Nat) (hn0:n0≤1000) (lv nv mv:Value) (x:Int) (w:World)
  (hSch:Calls prog 7 #[lv] w (fun e w'=>∃ up m1 uc tp m2 tc,e=.returned (.agg #[.slice up m1 uc,.slice tp m2 tc])∧Yn (fun _=>True) w' [.slice up m1 uc,.slice tp m2 tc] s∧Below w.heap.size w w'))
  (hDy1:∀ W cs,Below w.heap.size w W→Yn (fun _=>True) W cs s→Calls prog 8 #[.agg cs.toArray,nv,mv] W (N6 n0 W))
  (hDy2:∀ W cs,Below w.heap.size w W→Yn (fun _=>True) W cs s→Calls prog 8 #[.agg cs.toArray,mv,nv] W (N6 n0 W))
  (hLv:∀ W,Below w.heap.size w W→Calls prog 18 #[] W (fun e w'=>e=.returned (.bool true)∧Below W.heap.size W w')):
  Calls prog 4 #[lv,nv,mv,.int .i64 x] w fun e w'=>e=.returned (.bool true)∧Below w.heap.size w w':=by
 have HSch:=Qq hSch;have HDy1:=Qq hDy1;have HDy2:=Qq hDy2;have HLv:=Qq hLv
 clear hSch hDy1 hDy2 hLv
 obtain ⟨i0,j1,j2,j3,j4⟩:=Za (P:=prog) (t:=44) (z:=.agg zV) (n:=5) (b:=80) (by kernel_rfl)
 have HJ:=Qq j1;have HJ2:=Qq j2;have HJ3:=Qq j3;have HJ4:=Qq j4
 clear j1 j2 j3 j4
 go_enter func4,ntmps4
 go_upto_region 2 with (go_at_call 7;refine HSch.out.mono ?_;rintro e w1 ⟨up,m1,uc,tp,m2,tc,rfl,hsc1,hb1⟩;have HSc1:=Qq hsc1;have HB1:=Qq hb1;clear hsc1 hb1)
 generalize hW2:w1.alloc _=W2
 have hb2:=eqB hW2 (Qn _ _)
 have hX2:=eqH (b:=w1.heap.size) hW2 (Qw _ _)
 have HSc2:=Qq (HSc1.out.below hb2);have HB2:=Qq (HB1.out.thn hb2);have HX2:=Qq hX2
 obtain ⟨c0,c1⟩:=row2 hX2
 have hlt2:=Qf hX2
 clear hW2 hb2 hX2 HSc1
 have HDa:=Qq (HDy1.out W2 _ HB2.out HSc2.out)
 go_upto_region 3 with (go_at_call 8;refine HDa.out.mono ?_;rintro e w3 ⟨a,ap,ac,rfl,ha3,hal,hS3,hb3⟩;have HA3:=Qq ha3;have HAl:=Qq hal;have HS3:=Qq hS3;have HB3:=Qq hb3;clear ha3 hal hS3 hb3)
 have k0:w3.cell? ⟨w1.heap.size,0,none⟩=some (.slice up m1 uc):=kD HB3.out hlt2 c0
 have k1:w3.cell? ⟨w1.heap.size,1,none⟩=some (.slice tp m2 tc):=kD HB3.out hlt2 c1
 have HDb:=Qq (HDy2.out w3 _ (HB2.out.thn HB3.out) (HSc2.out.below HB3.out))
 clear HDa
 go_upto_region 4 with (go_at_call 8;refine HDb.out.mono ?_;rintro e w5 ⟨b,bp,bc,rfl,hb5',hbl,hS5,hb5⟩;have HB5':=Qq hb5';have HBl:=Qq hbl;have HS5:=Qq hS5;have HB5:=Qq hb5;clear hb5' hbl hS5 hb5)
 clear c0 c1 k0 k1 HDb
 go_upto_region 5 with fail
 generalize hW4:w5.alloc _=W4
 have hb4:=eqB hW4 (Qn _ _)
 have hN4:=eqH (b:=w5.heap.size) hW4 (Qw _ _)
 have hNm4:Sl Qp (fun _=>True) W4 (.slice (some ⟨w5.heap.size,0,none⟩) 4 4) [[116],[117],[118],[119]]:=Z4 hN4 trivial ((Gk _ _ [116] [117] (by simp) (by simp)).app (Gk _ _ [118] [119] (by simp) (by simp))) rfl rfl (by simp)
 have HNm4:=Qq hNm4
 have HSa:=Qq (HS3.out.below (HB5.out.thn hb4));have HSb:=Qq (HS5.out.below hb4)
 have HB4:=Qq (HB2.out.thn (HB3.out.thn (HB5.out.thn hb4)))
 have HName:=Qq (fun (W:World) (hW:Below W4.heap.size W4 W) (i:Nat) (hi:i<4)=>(show ∃ nm:Bs,([[116],[117],[118],[119]]:List Bs)[i]?=some nm∧W.cell? ⟨w5.heap.size,i,none⟩=some (.string ⟨nm.toArray⟩) from by
  obtain ⟨nm,hnm⟩:∃ y,([[116],[117],[118],[119]]:List Bs)[i]?=some y:=⟨_,Qx (by simpa using hi)⟩
  obtain ⟨nb,noff,hnp,hnc,hnml⟩:=HNm4.out.str hnm
  simp only [Option.some.injEq,Addr.mk.injEq,and_true] at hnp
  obtain ⟨hnb,hnoff⟩:=hnp
  rw [← hnb,← hnoff,Nat.zero_add] at hnc
  exact ⟨nm,hnm,kC hW hnc⟩))
 clear hW4 hb4 hN4 hNm4 HS3 HS5 hlt2
 obtain ⟨an,han⟩:=eX (a.length)
 obtain ⟨bn,hbn⟩:=eX (b.length)
 rw [han] at HSa ⊢
 rw [hbn] at HSb ⊢
 have HAn:=Qq han;have HBn:=Qq hbn
 clear han hbn
 go_wp2_with fail
 go_loopw [13,14,15] (fun t13 _ _ wr=>∃ k:Nat,k≤4∧t13=.int .i64 k∧Aside (Below W4.heap.size W4 wr)) (fun t13 _ _ _=>4 - (intOf t13).toNat)
 case atStart=>exact ⟨0,Q8 _,rfl,Qz _ _⟩
 obtain ⟨i,hi4,rfl,hBi⟩:=hrel
 have HBi:=Qq (show Below W4.heap.size W4 wr from hBi)
 have HWi:=Qq (HB4.out.thn hBi)
 clear hBi
 by_cases hi:i<4
 ·have g1:(i:Int)<4:=by omega
  have g2:(0:Int)≤(i:Int):=by omega
  obtain ⟨z,hz⟩:=eX (IntKind.i64.wrap (x+(i:Int)))
  have hz1:-9223372036854775808≤z∧z≤9223372036854775807:=by rw [IntKind.wrap_i64] at hz;omega
  obtain ⟨r,hr4,hre⟩:∃ r:Nat,r<4∧Yu z 4=(r:Int):=by
   refine ⟨(Yu z 4).toNat,?_,?_⟩ <;> (unfold Yu;split <;> omega)
  have HAr:=Qq (fun W=>Gn z 4 W hz1.1 hz1.2 (by omega) (by omega))
  rw [hre] at HAr
  obtain ⟨nr,hnr,er⟩:=HName.out wr HBi.out r hr4
  obtain ⟨nm,hnm,e1⟩:=HName.out wr HBi.out i hi
  have r1:(0:Int)≤(r:Int):=by omega
  have r2:(r:Int)<4:=by omega
  obtain ⟨F,hF⟩:=eX (Yv b nr)
  obtain ⟨R,hR⟩:=eX (Yv a nm)
  have hF8:F.length≤8:=by rw [← hF];exact Lm HB5'.out nr
  have hR8:R.length≤8:=by rw [← hR];exact Lm HA3.out nm
  have HRb:=Qq (fun W (hW:Below W4.heap.size W4 W)=>Uo (fun _=>True) (.slice bp bn bc) b nr W (HSb.out.rel.below hW))
  have HRa:=Qq (fun W (hW:Below W4.heap.size W4 W)=>Uo (fun _=>True) (.slice ap an ac) a nm W (HSa.out.rel.below hW))
  have HPa:=Qq (fun W (hW:Below W4.heap.size W4 W)=>Tk (fun _=>True) (.slice ap an ac) a nm W (HSa.out.rel.below hW))
  rw [hF] at HRb
  rw [hR] at HRa HPa
  unfold sv at HRb HRa HPa
  have HNm:=Qq (fun W (hW:Below W4.heap.size W4 W)=>(show W.cell? ⟨w5.heap.size,i,none⟩=some (.string ⟨nm.toArray⟩) from by
   obtain ⟨nm',hnm',e'⟩:=HName.out W hW i hi
   rw [hnm] at hnm'
   cases hnm'
   exact e'))
  have HRq:=Qq hR
  clear hz1 hre hnr hF hR
  go_upto_region 9 with (first
   | (go_at_call 19;refine (HAr.out _).mono ?_;rintro e w' ⟨rfl,rfl⟩)
   | (go_at_call 10;refine (HRb.out _ HBi.out).mono ?_;rintro e w' ⟨fp,fc,rfl,hfs,rfl⟩;have HFs:=Qq hfs;clear hfs))
  obtain ⟨nf,hnf⟩:=eX (F.length)
  obtain ⟨na,hna⟩:=eX (R.length)
  rw [hnf] at HFs hF8 ⊢
  rw [hna] at hR8
  have HNf:=Qq hnf;have HNa:=Qq hna
  clear hnf hna er hz
  go_cut [14] from 27 to 119 (fun t14 wx=>∃ p c,t14=.slice p (nf+na) c∧Sl Ql (fun _=>True) wx (.slice p (nf+na) c) (F++R)∧Below wr.heap.size wr wx)
  case first=>
   have HNw:=Qq (fun W (hW:Below wr.heap.size wr W)=>HNm.out W (HBi.out.thn hW))
   have HRw:=Qq (fun W (hW:Below wr.heap.size wr W)=>Uo (fun b=>b<wr.heap.size) (.slice ap an ac) a nm W (((HSa.out.rel.below HBi.out).mono (fun b hb _=>hb)).below hW))
   rw [HRq.out] at HRw
   unfold sv at HRw
   have HS:∀ w',Below wr.heap.size wr w'→(fun w'=>w'.cell? ⟨w5.heap.size,i,none⟩=some (.string ⟨nm.toArray⟩)∧Below wr.heap.size wr w') w':=fun w' h=>⟨HNw.out w' h,h⟩
   obtain ⟨HS0,HSr,HD',HSB',HA',HSq⟩:=X5 HS (fun w' h=>h.2)
   have HM0:=Qq (show Mk Ql 44 (fun b=>b<wr.heap.size) wr (wr.alloc (.cells #[] 44 (0,0))).drew (.slice (some ⟨wr.heap.size,0,none⟩) 0 0) 0 [] from ⟨[],Hw (n:=0) (show (wr.alloc (.cells #[] 44 (0,0))).heap[wr.heap.size]?=some (.cells #[] 44 (0,0)) from Qw _ _) (Q9 _) (Cs.nil _ _ _) rfl rfl (by simp),rfl,(Qn _ _).drew⟩)
   have HFw:=Qq (fun W (v:Value) (hW:Below wr.heap.size wr W) (hv:∀ g,v.ownBlock=some g→wr.heap.size≤g∧g<W.heap.size)=>((HFs.out.mono (S':=fun b=>b<wr.heap.size) (fun b hb _=>hb)).below hW).mono (S':=But (fun b=>b<wr.heap.size) v) (fun b _ hb=>⟨hb,fun e=>by have:=(hv b e.symm).1;omega⟩))
   have hm1:0+F.length=nf:=by rw [HNf.out,Nat.zero_add]
   have hm2:nf+R.length=nf+na:=by rw [HNa.out]
   have HM1:=Qq hm1;have HM2:=Qq hm2
   clear HS e1 hm1 hm2
   go_region_held3 (fun w'=>w'.cell? ⟨w5.heap.size,i,none⟩=some (.string ⟨nm.toArray⟩)∧Below wr.heap.size wr w') (first | with_reducible exact HS0.out | with_reducible exact hS2 | with_reducible exact HD'.out _ (HA'.out _ _ HSr.out) | with_reducible exact HD'.out _ hS2 | with_reducible exact HA'.out _ _ hS2)
    (first
     | (refine Ya (r:=Ql) (by decide) Zu (by rfl) (.tmp 42) (.tmp 48) 40 (by rfl) 44 i0 (.agg zV) 80 underlying40 HJ.out HJ2.out HJ3.out HJ4.out rfl (by omega) (fun b=>b<wr.heap.size) wr w6 (.slice p6 nf c6) nf ([]++F) (by rfl) HMk.out (.slice rp R.length rc) R (by rfl) HRs.out (nf+na) HM2.out (by omega) ?_;intro p7 c7 w7 hM7 hL7;have hS2:=HSq.out w7 hM7.below;have HM7:=Qq hM7;clear hM7 hL7)
     | (go_at_call 10;refine (HRw.out _ HMk.out.below).mono ?_;rintro e w' ⟨rp,rc,rfl,hrs,rfl⟩;have HRs:=Qq (hrs.mono (S':=But (fun b=>b<wr.heap.size) (.slice p6 nf c6)) (fun b _ hb=>⟨hb,fun e=>by have:=(HMk.out.lt b e.symm).1;omega⟩));clear hrs)
     | (refine Ya (r:=Ql) (by decide) Zu (by rfl) (.tmp 40) (.tmp 41) 40 (by rfl) 44 i0 (.agg zV) 80 underlying40 HJ.out HJ2.out HJ3.out HJ4.out rfl (by omega) (fun b=>b<wr.heap.size) wr (wr.alloc (.cells #[] 44 (0,0))).drew (.slice (some ⟨wr.heap.size,0,none⟩) 0 0) 0 [] (by rfl) HM0.out (.slice fp nf fc) F (by rfl) (HFw.out _ _ HM0.out.below HM0.out.lt) nf HM1.out (by omega) ?_;intro p6 c6 w6 hM6 hL6;have hS2:=HSq.out w6 hM6.below;have HMk:=Qq hM6;clear hM6 hL6))
   all_goals
    go_wp2_with fail
    go_meet
    obtain ⟨css7,hO7,hl7,hB7⟩:=HM7.out
    refine ⟨p7,c7,rfl,?_,hB7⟩
    have h9:=hO7.sl' (S':=fun _=>True) (by rw [hl7];omega) (fun _ _=>trivial) (fun _ _ _=>trivial)
    exact h9
  obtain ⟨p14,c14,rfl,hfr,hbc⟩:=hcut
  obtain ⟨w7,rfl⟩:∃ w7,w7=wc:=⟨_,rfl⟩
  obtain ⟨m,hm⟩:=eX (nf+na)
  have hm9:m≤16:=by omega
  rw [hm] at hfr ⊢
  have HFr:=Qq hfr;have HB7:=Qq (HBi.out.thn hbc)
  have hml:(F++R).length=m:=by rw [List.length_append,HNf.out,HNa.out];exact hm
  have HMl:=Qq hml
  have e2:=HNm.out w7 HB7.out
  have HPw:=Qq (fun W (hW:Below w7.heap.size w7 W)=>(HPa.out W (HB7.out.thn hW)).mono (R':=fun e w2=>∃ p c,e=.returned (.slice p R.length c)∧Sl Ql (fun _=>True) w2 (.slice p R.length c) R∧Below w7.heap.size w7 w2) (by
   rintro e w2 ⟨p,c,rfl,h1,h2⟩
   exact ⟨p,c,rfl,h1,hW.thn h2⟩))
  have HSm:=Qq (fun W v1 v2 (h1:Sl Ql (fun _=>True) W v1 R) (h2:Sl Ql (fun _=>True) W v2 R) (hW:Below w7.heap.size w7 W)=>(Jp _ _ v1 v2 R R W h1 h2).mono (R':=fun e w2=>e=.returned (.bool true)∧Below w7.heap.size w7 w2) (by
   rintro e w2 ⟨rfl,hg⟩
   rw [Dy eqv (fun x=>by simp [eqv])]
   exact ⟨rfl,hW.thn hg.bl⟩))
  clear hfr hbc hm hml
  go_upto_region 10 with fail
  go_cut [63] from 27 to 119 (fun t63 wx=>t63=.bool false∧Below w7.heap.size w7 wx)
  case first=>
   go_region_with (first
    | (go_at_call 13;refine (HSm.out _ _ _ HP1.out HP2.out HPb.out).mono ?_;rintro e w9 ⟨rfl,hb9⟩;have HB9:=Qq hb9;clear hb9)
    | (go_at_call 10;refine (HRa.out _ (HB7.out.thn HPb.out)).mono ?_;rintro e w' ⟨p2,c2,rfl,h2,rfl⟩;have HP2:=Qq h2;clear h2)
    | (go_at_call 20;refine (HPw.out _ (Qz _ _).drew).mono ?_;rintro e w8 ⟨p1,c1,rfl,h1,hb1⟩;have k8:=HNm.out w8 (HB7.out.thn hb1);have HP1:=Qq h1;have HPb:=Qq hb1;clear h1 hb1))
   all_goals
    go_wp2_with fail
    go_meet
    exact ⟨rfl,HB9.out⟩
  obtain ⟨rfl,hbc⟩:=hcut
  obtain ⟨w8,rfl⟩:∃ w8,w8=wc:=⟨_,rfl⟩
  have HF8:=Qq (HFr.out.below hbc);have HB8:=Qq (HB7.out.thn hbc)
  have HIb:=Qq (HBi.out)
  clear hbc e2 HPw HSm
  go_wp2_with fail
  go_loopw [15] (fun t15 wr=>∃ k:Nat,k≤4∧k≤m∧t15=.int .i64 k∧Aside (Below w8.heap.size w8 wr)) (fun t15 _=>4 - (intOf t15).toNat)
  case atStart=>exact ⟨0,Q8 _,Q8 _,rfl,Qz _ _⟩
  obtain ⟨k,hk4,hkm,rfl,hBk⟩:=hrel
  have HBk:=Qq (HB8.out.thn hBk.out)
  have HFk:=Qq (HF8.out.below hBk.out);have HBq:=Qq hBk.out
  clear hBk
  by_cases hlt:k<m∧k<4
  ·obtain ⟨hlt1,hlt4⟩:=hlt
   have q1:(0:Int)≤(k:Int):=by omega
   have q2:(k:Int)<(m:Int):=by omega
   have q3:(k:Int)<4:=by omega
   obtain ⟨y,hy⟩:∃ y,(F++R)[k]?=some y:=⟨_,Qx (by rw [HMl.out];exact hlt1)⟩
   obtain ⟨fb,foff,y3,y3c,y4,y4c,hfp,hfb,hvy,d0,d1,d2,d3,d4⟩:=HFk.out.val hy
   subst hfp
   have e1:=HNm.out wr HBk.out
   have HVy:=Qq hvy
   obtain ⟨l1,hl1⟩:=eX (Uv a nm y)
   obtain ⟨l2,hl2⟩:=eX (Kt a nm y)
   have hn1:l1.length=an:=by rw [← hl1,Ut];exact HAn.out
   have hn2:l2.length=an:=by rw [← hl2,Mx];exact HAn.out
   have hfew1:∀ r ∈ a,r.rows.length≤10000:=fun r hr=>by have:=HA3.out r hr;omega
   have hfew2:∀ r ∈ a,r.rows.length≤1000:=fun r hr=>by have:=HA3.out r hr;omega
   have ha9:a.length≤1000:=by have:=HAl.out;omega
   have han9:an≤1000:=by have:=HAn.out;omega
   have hsb:∀ W,Below wr.heap.size wr W→Below W4.heap.size W4 W:=fun W hW=>HBk.out.thn hW
   have HIp:=Qq (fun W (hW:Below wr.heap.size wr W)=>(L7 (fun _=>True) _ (.slice ap an ac) a nm y (vcs y y3 y3c y4 y4c) W (HSa.out.rel.below (hsb W hW)) (HVy.out.move (.of_below hW) (fun _ _ h=>h)) hfew1).mono (R':=fun e w2=>∃ p c,e=.returned (.slice p an c)∧Sl Z0 (fun _=>True) w2 (.slice p an c) l1∧Below wr.heap.size wr w2) (by
    rintro e w2 ⟨p,c,rfl,h1,h2⟩
    rw [hl1,hn1] at h1 ⊢
    exact ⟨p,c,rfl,h1,hW.thn h2⟩))
   have HDp:=Qq (fun W (hW:Below wr.heap.size wr W)=>(Ln (fun _=>True) _ (.slice ap an ac) a nm y (vcs y y3 y3c y4 y4c) W (HSa.out.rel.below (hsb W hW)) (HVy.out.move (.of_below hW) (fun _ _ h=>h)) hfew1).mono (R':=fun e w2=>∃ p c,e=.returned (.slice p an c)∧Sl Z0 (fun _=>True) w2 (.slice p an c) l2∧Below wr.heap.size wr w2) (by
    rintro e w2 ⟨p,c,rfl,h1,h2⟩
    rw [hl2,hn2] at h1 ⊢
    exact ⟨p,c,rfl,h1,hW.thn h2⟩))
   have HIr:=Qq (fun W (hW:Below wr.heap.size wr W)=>(Jc (fun _=>True) (.slice ap an ac) a nm y (vcs y y3 y3c y4 y4c) W (HSa.out.below (hsb W hW)) (HVy.out.move (.of_below hW) (fun _ _ _=>trivial)) ha9 hfew2).mono (R':=fun e w2=>∃ p c,e=.returned (.slice p an c)∧Sl Z0 (fun _=>True) w2 (.slice p an c) l1∧Below wr.heap.size wr w2∧Below W.heap.size W w2) (by
    rintro e w2 ⟨p,c,css,rfl,h1,h2⟩
    rw [hl1,hn1] at h1 ⊢
    exact ⟨p,c,rfl,h1.rel.sl' (by rw [hn1];omega) (fun _ _=>trivial) (fun _ _ _=>trivial),hW.thn h2,h2⟩))
   have HDr:=Qq (fun W (hW:Below wr.heap.size wr W)=>(Lb (fun _=>True) (.slice ap an ac) a nm y (vcs y y3 y3c y4 y4c) W (HSa.out.below (hsb W hW)) (HVy.out.move (.of_below hW) (fun _ _ _=>trivial)) ha9 hfew2).mono (R':=fun e w2=>∃ p c,e=.returned (.slice p an c)∧Sl Z0 (fun _=>True) w2 (.slice p an c) l2∧Below wr.heap.size wr w2∧Below W.heap.size W w2) (by
    rintro e w2 ⟨p,c,css,rfl,h1,h2⟩
    rw [hl2,hn2] at h1 ⊢
    exact ⟨p,c,rfl,h1.rel.sl' (by rw [hn2];omega) (fun _ _=>trivial) (fun _ _ _=>trivial),hW.thn h2,h2⟩))
   have HEq:=Qq (fun W v1 v2 (l:List Rel) (h1:Sl Z0 (fun _=>True) W v1 l) (h2:Sl Z0 (fun _=>True) W v2 l) (hW:Below wr.heap.size wr W)=>(Nv _ _ v1 v2 l l W h1 h2).mono (R':=fun e w2=>e=.returned (.bool true)∧Below wr.heap.size wr w2) (by
    rintro e w2 ⟨rfl,hg⟩
    rw [Dy Ju (fun r=>by unfold Ju;rw [Dy eqv (fun x=>by simp [eqv])];simp)]
    exact ⟨rfl,hW.thn hg.bl⟩))
   unfold vcs sv at HIp HDp HIr HDr
   refine let_mvar% ?Lq1:=fun w':World=>w'.cell? ⟨w5.heap.size,i,none⟩=some (.string ⟨nm.toArray⟩)∧w'.cell? ⟨fb,foff+k*5,none⟩=some (.int .i64 y.kind)∧w'.cell? ⟨fb,foff+k*5+1,none⟩=some (.int .i64 y.n)∧w'.cell? ⟨fb,foff+k*5+2,none⟩=some (.string ⟨y.s.toArray⟩)∧w'.cell? ⟨fb,foff+k*5+3,none⟩=some (.slice y3 y.names.length y3c)∧w'.cell? ⟨fb,foff+k*5+4,none⟩=some (.slice y4 y.kids.length y4c)∧Below wr.heap.size wr w';?_
   have HS:∀ w',Below wr.heap.size wr w'→?Lq1 w':=by
    intro w' h
    have hh:∀ {b j:Nat} {u:Value},wr.cell? ⟨b,j,none⟩=some u→w'.cell? ⟨b,j,none⟩=some u:=fun hc=>kC h hc
    exact ⟨hh e1,hh d0,hh d1,hh d2,hh d3,hh d4,h⟩
   obtain ⟨HS0,HSr,HD',HSB',HA',HSq⟩:=X5 HS (fun w' h=>h.2.2.2.2.2.2)
   clear HS hy hvy hl1 hl2 hn1 hn2 hfew1 hfew2 ha9 han9 hsb
   go_upto_region 15 with fail
   clear e1 d0 d1 d2 d3 d4
   go_cut [119] from 64 to 119 (fun t119 wx=>t119=.bool false∧Below wr.heap.size wr wx)
   case first=>
    go_region_held3 ?Lq1 (first | with_reducible exact HS0.out | with_reducible exact hS2 | with_reducible exact HD'.out _ hS2)
     (first
      | (go_at_call 21;refine (HEq.out _ _ _ _ HQ3'.out HQ4.out HQ4w.out).mono ?_;rintro e w9 ⟨rfl,hb9⟩;have hS2:=HSq.out _ hb9;have HB9:=Qq hb9;clear hb9)
      | (go_at_call 25;refine (HDr.out _ (HSB'.out _ (by assumption))).mono ?_;rintro e w4' ⟨p4',c4',rfl,h4,hb4,hc4⟩;have hS2:=HSq.out _ hb4;have HQ3':=Qq (HQ3.out.below hc4);have HQ4:=Qq h4;have HQ4w:=Qq hb4;clear h4 hb4 hc4)
      | (go_at_call 24;refine (HDp.out _ (HSB'.out _ (by assumption))).mono ?_;rintro e w3' ⟨p3',c3',rfl,h3,hb3⟩;have hS2:=HSq.out _ hb3;have HQ3:=Qq h3;clear h3 hb3)
      | (go_at_call 21;refine (HEq.out _ _ _ _ HQ1'.out HQ2.out HQ2w.out).mono ?_;rintro e w8' ⟨rfl,hb8⟩;have hS2:=HSq.out _ hb8;clear hb8)
      | (go_at_call 23;refine (HIr.out _ (HSB'.out _ (by assumption))).mono ?_;rintro e w2' ⟨p2',c2',rfl,h2,hb2,hc2⟩;have hS2:=HSq.out _ hb2;have HQ1':=Qq (HQ1.out.below hc2);have HQ2:=Qq h2;have HQ2w:=Qq hb2;clear h2 hb2 hc2)
      | (go_at_call 22;refine (HIp.out _ (HSB'.out _ (by assumption))).mono ?_;rintro e w1' ⟨p1',c1',rfl,h1,hb1⟩;have hS2:=HSq.out _ hb1;have HQ1:=Qq h1;clear h1 hb1))
    all_goals
     go_wp2_with fail
     go_meet
     exact ⟨rfl,HB9.out⟩
   obtain ⟨rfl,hbc⟩:=hcut
   obtain ⟨w9,rfl⟩:∃ w9,w9=wc:=⟨_,rfl⟩
   have HB9:=Qq (HBq.out.thn hbc)
   clear hbc
   go_wp2_with fail
   go_roundw
   case measure=>simp [intOf];omega
   case rel=>exact ⟨k+1,by omega,by omega,by go_num,HB9.out⟩
  by_cases hlt1:k<m
  ·have q2:(k:Int)<(m:Int):=by omega
   have q3:¬ (k:Int)<4:=by omega
   have q4:decide ((k:Int)<4)=false:=by rw [decide_eq_false_iff_not];omega
   go_wp2_with fail
   go_roundw
   case measure=>simp [intOf];omega
   case rel=>exact ⟨i+1,by omega,by go_num,HBk.out⟩
  have q2:¬ (k:Int)<(m:Int):=by omega
  go_wp2_with fail
  go_roundw
  case measure=>simp [intOf];omega
  case rel=>exact ⟨i+1,by omega,by go_num,HBk.out⟩
 have:i=4:=by omega
 subst this
 have HLr:=Qq (HLv.out wr HWi.out)
 go_wp2_with (go_at_call 18;refine HLr.out.mono ?_;rintro e w' ⟨rfl,hw'⟩;have HBw:=Qq hw';clear hw')
 go_ret
 exact ⟨rfl,HWi.out.thn HBw.out⟩
theorem F9 (HCk:Dk) (S1 S2 S3:Nat→Prop) (lv nv mv:Value) (ls ns ms:List Int) (x:Int) (w:World) (hl0:Y6 S1 w lv ls) (hn0:Y6 S2 w nv ns) (hm0:Y6 S3 w mv ms) (hi1:V9 ls) (hi2:V9 ns) (hi3:V9 ms) (hkw:Xe w):
  Calls prog 4 #[lv,nv,mv,.int .i64 x] w fun e w'=>e=.returned (.bool true)∧Below w.heap.size w w':=by
 obtain ⟨s,hsd⟩:=eX (Gen.schema (Zp ls 0 13).toNat (Zp ls 1 3==0) (decide (0<Zp ls 2 3)) (Zp ls 3 2==0))
 have hG:Pv s:=by rw [← hsd];exact Ht _ _ _ _
 have hne:0<s.tables.length:=by rw [← hsd];simp [Gen.schema]
 have hfew:=hG.few
 have hdy:∀ W e w',Om s W e w'→N6 s.tables.length W e w':=by
  rintro W e w' ⟨l,p,cap,rfl,h1,h2,_,h3,h4⟩
  exact ⟨l,p,cap,rfl,fun r hr=>(h1 r hr).2,h2,h3.mono (fun _ _ _=>trivial),h4⟩
 refine Da s s.tables.length (by omega) lv nv mv x w ?_ (fun W cs hW hsc=>?_) (fun W cs hW hsc=>?_) (fun W hW=>R9 W (hkw.below hW))
 ·refine (M2 S1 lv ls (Zp ls 0 13).toNat _ _ _ w hl0 hi1 (fun W hW=>Lc S1 lv ls W (hl0.below hW) hi1) rfl rfl rfl).mono ?_
  rintro e w' ⟨cs,rfl,h1,h2⟩
  rw [hsd] at h1
  obtain ⟨uv,tv,rfl,hu,ht⟩:=h1
  obtain ⟨up,uc,rfl,_⟩:=hu.len
  obtain ⟨tp,tc,rfl,_⟩:=ht.len
  exact ⟨_,_,_,_,_,_,rfl,⟨_,_,rfl,hu.mono (fun _ _ _=>trivial),ht.mono (fun _ _ _=>trivial)⟩,h2⟩
 ·exact (Gg HCk s hG hne _ S2 S3 cs nv mv ns ms W hsc (hn0.below hW) (hm0.below hW) hi2 hi3).mono (fun e w' h=>hdy W e w' h)
 exact (Gg HCk s hG hne _ S3 S2 cs mv nv ms ns W hsc (hm0.below hW) (hn0.below hW) hi3 hi2).mono (fun e w' h=>hdy W e w' h)
open Go.ChangeShapes Go.WideShapes Go.ChangeAt Go.RowKit
open Go.ChangeMaps (open_string shut_string)
theorem own:ownKnob Tryz.prog.godebug=none:=by kernel_rfl
theorem Hz:laidOutB Tryz.prog=true:=by kernel_rfl
theorem Bn {P:Program} {w:World} {nm:String} {ls:List Bs} {g:Nat} {t e:TypeId} (h:Lib.VarReads P w nm (.agg (ls.map fun l=>.lit (.string l))))
  (hg:P.globalNamed nm=some g) (ht:(P.globals[g]?).map (·.type)=some t) (hu:P.underlying t=some (.array ls.length e)) (he:P.underlying e=some .string) (hc:P.cellsOf e=1):
  w.rangeAt g 0 (svs ls):=by
 obtain ⟨g',t',cs,fuel,p,hg',ht',hv,hd⟩:=h
 obtain rfl:=Qb (hg.symm.trans hg')
 obtain rfl:=Qb (ht.symm.trans ht')
 intro j v hj
 rw [Nat.zero_add,World.var?_cell hg hv j]
 obtain ⟨l,hl,rfl⟩:∃ l,ls[j]?=some l∧v=sv l:=by
  simp only [svs,List.getElem?_map,Option.map_eq_some_iff] at hj
  obtain ⟨l,h1,h2⟩:=hj
  exact ⟨l,h1,h2.symm⟩
 have hjl:j<ls.length:=(Qj hl).1
 obtain ⟨f',d,q,hd1,hd2⟩:=Lib.array_elem hu hd j hjl
 rw [hc,Nat.mul_one] at hd2
 obtain ⟨s,hs,hx,_⟩:=DataW.trod_string he hd2
 simp only [List.getElem?_map,hl,Option.map_some,Option.some.injEq] at hd1
 simp only [Prod.mk.injEq] at hx
 obtain ⟨rfl,_⟩:=hx
 simp only [DataW.lit.injEq,Lit.string.injEq] at hd1
 subst hd1
 have h0:((cs.toList.drop j).take 1)[0]?=some (.string s):=by rw [hs];rfl
 rw [List.getElem?_take_of_lt (by omega),List.getElem?_drop,Nat.add_zero,Array.getElem?_toList] at h0
 rw [h0]
 rfl
theorem gKws : Tryz.prog.globalNamed "schemalens/lexer.keywords"=some 5:=by kernel_rfl
theorem tKws:(Tryz.prog.globals[5]?).map (·.type)=some 250:=by kernel_rfl
set_option maxRecDepth 100000
theorem Ow {w:World} (h:laidMetH Tryz.prog Rows.rowsChangesRow.laid w):Xe w:=by
 rw [MakeChecks.laidMetH_plain _ _ _ (by kernel_rfl)] at h
 have h1:Lib.VarReads Tryz.prog w "schemalens/lexer.keywords" Rows.laid_schemalens_lexer_keywords:=Lib.laidMet.reads h (.tail _ (.tail _ (.tail _ (.tail _ (.tail _ (.tail _ (.head _)))))))
 exact Bn (ls:=kws) h1 gKws tKws Tryz.underlying250 Tryz.underlying9 (by kernel_rfl)
theorem Jk {H:Type} {enc:TypeId × Value→H} {W:World} {base:Nat} {v:Value} {d:DataW H} {p:List MemPlace} (hv:Value.okWide Tryz.prog W .any base 22 v)
  (h:DataW.Trod enc Tryz.prog W 0 (fun _=>true) true 22 v d p):∃ zs,Y6 (fun _=>True) W v zs∧V9 zs:=by
 obtain ⟨a,len,cap,rfl⟩:=okWide_slice Tryz.underlying22 hv
 obtain ⟨fuel,hf⟩:=h
 rcases open_ints Tryz.underlying22 Tryz.underlying3 (by kernel_rfl) hf with ⟨hcs,_⟩ | ⟨x,l,c,zs,hcs,_,hl,hm,hz,_,hcell,hwz⟩
 ·simp [Value.cells] at hcs
  obtain ⟨rfl,rfl,rfl⟩:=hcs
  exact ⟨[],⟨none,0,rfl,by simp,fun h=>absurd rfl h⟩,fun z hz=>by cases hz⟩
 simp [Value.cells] at hcs
 obtain ⟨rfl,rfl,rfl⟩:=hcs
 simp only [if_true] at hz
 have hlen:(zs.take len).length=len:=by simp;omega
 refine ⟨zs.take len,⟨_,cap,by rw [hlen],by rw [hlen];unfold maxLen at hm;omega,fun hne=>?_⟩,fun z hzm=>?_⟩
 ·have hpos:0<len:=by
   rw [← hlen]
   exact List.length_pos_iff.2 hne
  obtain ⟨b,off,spot⟩:=x
  have hspot:spot=none:=by simpa [Addr.add] using World.cell?_spot (hcell 0 (by omega))
  subst hspot
  have hat:∀ i z,(zs.take len)[i]?=some z→W.cell? ⟨b,off+i,none⟩=some (.int .i64 z):=fun i z hi=>by
   have hil:i<len:=by have:=(Qj hi).1;omega
   rw [List.getElem?_take_of_lt hil] at hi
   have:=hcell i (by omega)
   rw [List.getD_eq_getElem?_getD,hi] at this
   rwa [show ((⟨b,off,none⟩:Addr).add i)=⟨b,off+i,none⟩ by unfold Addr.add;split <;> simp_all,Option.getD_some] at this
  obtain ⟨z0,hz0⟩:∃ z,(zs.take len)[0]?=some z:=⟨_,Qx (by rw [hlen];exact hpos)⟩
  exact ⟨b,off,rfl,trivial,Qv _ _ (hat 0 z0 hz0),hat⟩
 have:=hwz z (List.mem_of_mem_take hzm)
 simpa [Lit.wf,IntKind.min,IntKind.max,IntKind.signed,IntKind.bits] using this
theorem T3:Dk:=fun S0 S1 s cs lv l w h1 h2 h3 h4 h5 h6=>Mn S0 S1 s cs lv l w h1 h2 h3 h4 h5 h6
theorem K9 (os:Os) (started:os.Started) (H:Type) (enc:TypeId × Value→H):
  ReturnsInHanded {} Tryz.checked os 4 .any (fun w args=>(Rows.rowsChangesSpec.pre enc Tryz.prog Tryz.f4 Rows.rowsChangesRow.domain false w args∧laidMetH Tryz.prog Rows.rowsChangesRow.laid w)∧sizedMet enc Tryz.prog Tryz.f4 (OpenSpec.ofChange Rows.rowsChangesSpec) false w args)
   (Rows.rowsChangesSpec.post enc Tryz.prog Tryz.f4 false true false false):=by
 refine returnsInHanded_of_change_and (C:=Tryz.checked) (X:=fun w _=>laidMetH Tryz.prog Rows.rowsChangesRow.laid w) (fun _ _ _ hh h=>h.of_heap hh) own started (by kernel_rfl) Tryz.func4
  (ChangeSpec.witness_shaped (enc:=enc) (C:=Tryz.checked) (os:=os) (X:=fun w _=>laidMetH Tryz.prog Rows.rowsChangesRow.laid w) false (World.laidAll Tryz.prog os Rows.rowsChangesRow.laid) #[.slice none 0 0,.slice none 0 0,.slice none 0 0,.int .i64 0] 8 (World.laidAll_os _ _ _)
   (World.shaped_of_ZipB (by kernel_rfl) (by kernel_rfl)) (by kernel_rfl) (by kernel_rfl) (by kernel_rfl)
   (by rw [MakeChecks.laidMetH_plain _ _ _ (by kernel_rfl)];exact laidMet_laidAll _ (by kernel_rfl) (by kernel_rfl))) ?_
 intro W base args ds gs before hval0 hW _ _ hL _
 have hval:∀ (j:Nat) t v,Tryz.f4.params[j]?=some t→args[j]?=some v→Value.okWide Tryz.prog W .any base t v:=hval0
 have hW':=hW
 obtain ⟨p,q,hA0,hV,rfl,_,_⟩:=hW
 have hA:DataW.TrodAll enc Tryz.prog W 0 (fun _=>true) true Tryz.f4.params.toList args.toList ds p:=hA0
 rw [Tryz.params4] at hA hval
 obtain ⟨v0,vs0,d0,ds0,p0,q0,hargs,rfl,rfl,h0,r0⟩:=trodAll_cons hA
 obtain ⟨v1,vs1,d1,ds1,p1,q1,rfl,rfl,rfl,h1,r1⟩:=trodAll_cons r0
 obtain ⟨v2,vs2,d2,ds2,p2,q2,rfl,rfl,rfl,h2,r2⟩:=trodAll_cons r1
 obtain ⟨v3,vs3,d3,ds3,p3,q3,rfl,rfl,rfl,h3,r3⟩:=trodAll_cons r2
 obtain ⟨rfl,rfl,rfl⟩:=trodAll_nil r3
 obtain rfl:args=#[v0,v1,v2,v3]:=by cases args;simp_all
 obtain ⟨rfl,rfl⟩:=trodVars_none hV
 have k0:=h0
 have lt0:∀ x ∈ p0,x.block<W.heap.size:=by obtain ⟨m,hm⟩:=k0;exact DataW.trod_lt m _ _ _ hm
 obtain ⟨z0,hz0,hl0⟩:=Jk (hval 0 22 v0 rfl rfl) h0
 have k1:=h1
 have lt1:∀ x ∈ p1,x.block<W.heap.size:=by obtain ⟨m,hm⟩:=k1;exact DataW.trod_lt m _ _ _ hm
 obtain ⟨z1,hz1,hl1⟩:=Jk (hval 1 22 v1 rfl rfl) h1
 have k2:=h2
 have lt2:∀ x ∈ p2,x.block<W.heap.size:=by obtain ⟨m,hm⟩:=k2;exact DataW.trod_lt m _ _ _ hm
 obtain ⟨z2,hz2,hl2⟩:=Jk (hval 2 22 v2 rfl rfl) h2
 obtain ⟨a3,rfl,rfl,rfl,w3⟩:=open_int Tryz.underlying3 (hval 3 3 v3 rfl rfl) h3
 clear hA0 hval0
 refine (F9 T3 _ _ _ v0 v1 v2 z0 z1 z2 a3 W hz0 hz1 hz2 hl0 hl1 hl2 (Ow hL)).mono fun e W' ⟨he,bel⟩=>?_
 subst he
 exact ⟨_,rfl,_,_,_,[],_,[],hW',trodAll_mk1 (shut_bool Tryz.underlying4 _),(trodAll_cons_mk (Below.trod Hz (by kernel_rfl) (of_decide_eq_true (by kernel_rfl)) k0 bel lt0) (trodAll_cons_mk (Below.trod Hz (by kernel_rfl) (of_decide_eq_true (by kernel_rfl)) k1 bel lt1) (trodAll_cons_mk (Below.trod Hz (by kernel_rfl) (of_decide_eq_true (by kernel_rfl)) k2 bel lt2) (trodAll_cons_mk (shut_int Tryz.underlying3 w3) trodAll_mk0)))),rfl,bel.frame _,fun h=>by cases h⟩
theorem Fe:Rows.RowsChangesSaid:=
 OpenClaim.holds_of_wide 4 Tryz.f4 rfl rfl rfl rfl rfl rfl rfl ⟨rfl,rfl,rfl,rfl,rfl⟩ rfl rfl rfl rfl rfl (by kernel_rfl) Tryz.func4 (by kernel_rfl)
  (of_decide_eq_true (by kernel_rfl)) (by unfold Func.isWrapper;first | (rw [if_pos (by decide +kernel)];kernel_rfl) | (rw [if_neg (by decide +kernel)];exact ⟨rfl,rfl⟩))
  (fun os started H enc _=>K9 os started H enc)
theorem rowsChanges_proved:Rows.RowsChangesCardSaid:=
 Claim7.holds_tied_plain_at .later [] [.data,.data,.data,.data,.sentinel,.sentinel,.widerDeep,.data,.pinned] true (true, "331b13e1f6b770af449e390ba836dd9aec1731ef3a39a80905472fcda2023072") true Fe (fun _ h=>by cases h) (by kernel_rfl) (fun _ h=>by cases h) rowsChanges_row_tie rfl ⟨rfl,rfl⟩ (by kernel_rfl) rfl
  (fun f fn hf hfn=>by
   obtain rfl:f=4:=Qb ((show Tryz.prog.funcNamed "schemalens/schemalenslaw17.RowsChanges"=some 4 by kernel_rfl).symm.trans hf) |>.symm
   obtain rfl:fn=Tryz.f4:=(Qb (Tryz.func4.symm.trans hfn)).symm
   exact ⟨by kernel_rfl,fun j t ht=>by
    rw [Tryz.params4] at ht
    have hm:t ∈ [22,22,22,3]:=by simpa using Array.mem_of_getElem? ht
    have hall:([22,22,22,3].all fun u=>!Tryz.prog.wantsStandIn u)=true:=by kernel_rfl
    exact (show Tryz.prog.wantsStandIn t=false by simpa using List.all_eq_true.1 hall t hm)⟩)
  (by kernel_rfl)
end Go.Proofs.YtppbaladeefnkaaGreatDoor
