import Derived.Test.YtppbaladeefnkaaGreatDoorU15
set_option maxRecDepth 100000
set_option maxHeartbeats 400000000
namespace Go.Proofs.YtppbaladeefnkaaGreatDoor
open Go.RowKit Go.Shelf Go.Lib Tryz
def Mo : Rd Bs where
 k := 2
 R _ _ cs x := cs = [sv x, .slice none 0 0] ∧ x.length ≤ 1000000
 len h := by rw [h.1]; rfl
 frame h _ := h
 mono h _ := h
def Yd (s : Sc) : List Rel := s.tables.map (fun t => ⟨t.name, []⟩)
theorem R0 {E : TypeId} {S : Nat → Prop} {B : Nat} {w : World} {v : Value} {ns : List Bs} {css : List (List Value)} (h : Own Mo E S B w v ns css) (hE : E = 57) : Xg B w v (ns.map fun x => ⟨x, []⟩) (List.replicate ns.length (.slice none 0 0)) := by
 subst hE
 have hc : css = Za (ns.map fun x => ⟨x, []⟩) (List.replicate ns.length (.slice none 0 0)) := by
  apply List.ext_getElem?
  intro i
  by_cases hi : i < ns.length
  ·have h1 := Qx (l := css) (i := i) (by rw [h.cs.len]; exact hi)
   have h2 := Qx hi
   have h3 := (h.cs.R i _ _ h1 h2).1
   rw [h1, h3, Uc (r := ⟨ns[i], []⟩) (rv := .slice none 0 0) (by rw [List.getElem?_map, h2]; rfl) (by rw [List.getElem?_replicate, if_pos hi])]
  rw [List.getElem?_eq_none (by rw [h.cs.len]; omega), List.getElem?_eq_none (by rw [Vy (by simp)]; simp; omega)]
 refine ⟨by simp, ?_, ?_, ?_, ?_⟩
 ·rw [← hc, List.length_map]; exact h.row
 ·intro r hr
  obtain ⟨x, hx, rfl⟩ := List.mem_map.1 hr
  obtain ⟨i, hi⟩ := List.getElem?_of_mem hx
  have hil := (Qj hi).1
  exact (h.cs.R i _ _ (Qx (by rw [h.cs.len]; exact hil)) hi).2
 ·intro i r rv hr hrv
  rw [List.getElem?_replicate] at hrv
  split at hrv
  ·cases hrv
   rw [List.getElem?_map] at hr
   cases hx : ns[i]? with
   | none => rw [hx] at hr; cases hr
   | some x => rw [hx] at hr; cases hr; exact ⟨[], Own.nil _ _ _ _ _⟩
  cases hrv
 intro i j a b g ha _ h1
 rw [List.getElem?_replicate] at ha
 split at ha
 ·cases ha; cases h1
 cases ha
def O8 (w : World) (s : Sc) (e : Ending) (w' : World) : Prop := ∃ p cap, e = .returned (.slice p s.tables.length cap) ∧ Xg w.heap.size w' (.slice p s.tables.length cap) (Yd s) (List.replicate s.tables.length (.slice none 0 0)) ∧ Below w.heap.size w w'
theorem Rg (S0 : Nat → Prop) (s : Sc) (cs : List Value) (w : World) (hs : Yl S0 w cs s) (hnl : ∀ t ∈ s.tables, t.name.length ≤ 1000000) (hl0 : s.tables.length ≤ 1000) :
  Calls prog 29 #[.agg cs.toArray] w (O8 w s) := by
 obtain ⟨uv, tv, rfl, hu, ht0⟩ := hs
 have ht : Sl Qs (fun b => b < w.heap.size) w tv s.tables := ht0.mono (fun b hb _ => hb)
 obtain ⟨up, uc, rfl, _⟩ := hu.len
 obtain ⟨tp, tc, rfl, htl⟩ := ht.len
 have HT := Qq ht; have HNL := Qq hnl
 obtain ⟨i0, j1, j2, j3, j4⟩ := Ze (P := prog) (t := 57) (z := .agg #[.string ⟨#[]⟩, .slice none 0 0]) (n := 2) (b := 40) (by kernel_rfl)
 have HJ := Qq j1; have HJ2 := Qq j2; have HJ3 := Qq j3; have HJ4 := Qq j4
 clear hu ht0 ht hnl j1 j2 j3 j4
 unfold O8 Yd
 obtain ⟨n, hn⟩ := eX (s.tables.length)
 rw [hn] at HT hl0 ⊢
 have HN := Qq hn
 clear hn
 go_enter func29, ntmps29
 go_wp2_with fail
 generalize hW1 : w.alloc _ = W1
 have hb1 := eqB hW1 (Qo _ _)
 have hX1 := eqH (b := w.heap.size) hW1 (Qw _ _)
 have HB1 := Qq hb1; have HX1 := Qq hX1
 clear hW1 hb1 hX1
 have hszW : w.heap.size ≤ W1.heap.size := HB1.out.size
 go_loopw [3, 9] (fun o i wr => ∃ (k : Nat) (p : Option Addr) (cap : Nat) (ns : List Bs) (css : List (List Value)), k ≤ n ∧ i = .int .i64 k ∧ o = .slice p k cap ∧ ns.length = k ∧ Aside (ns = (s.tables.take k).map Tbl.name) ∧
  Own Mo 57 (fun _ => False) W1.heap.size wr (.slice p k cap) ns css ∧ Below W1.heap.size W1 wr) (fun _ i _ => n - (intOf i).toNat)
 case atStart => exact ⟨0, none, 0, [], [], Q8 _, rfl, rfl, rfl, rfl, Own.nil _ _ _ _ _, Qz _ _⟩
 obtain ⟨k, p, cap, ns, css, hkn, rfl, rfl, hns, hE, hO, hBr⟩ := hrel
 have hXr := kB hBr HX1.out
 have hsr := hBr.size
 have HBr := Qq hBr; have HBw := Qq (HB1.out.trans (hBr.mono hszW)); have HO := Qq hO; have HE := Qq hE.out; have HNS := Qq hns
 clear hXr hBr hO hE hns
 by_cases hlt : k < n
 ·have hi1 : (0 : Int) ≤ (k : Int) := by omega
  have hi2 : (k : Int) < (n : Int) := by omega
  obtain ⟨t, hx⟩ : ∃ t, s.tables[k]? = some t := ⟨_, Qx (by rw [HN.out]; exact hlt)⟩
  have htn := HNL.out t (Qy hx)
  have htk : (s.tables.take (k + 1)).map Tbl.name = (s.tables.take k).map Tbl.name ++ [t.name] := by
   have hk := (Qj hx).1
   rw [List.take_succ_eq_append_getElem hk, List.map_append]
   rw [Qx hk] at hx; cases hx; rfl
  obtain ⟨tb, toff, ct, rfl, htb, _, htlen, htR, htc⟩ := (HT.out.below HBw.out).elem hx
  obtain ⟨cp9, cc9, kp9, kc9, rp9, rc9, k9, s19, n9, s29, p19, n19, c19, p29, n29, c29, p39, n39, c39, a9, z9, hcs, _⟩ := Zk htR
  simp only [tcs] at hcs
  subst hcs
  have d0 := htc 0 _ rfl
  have d1 := htc 1 _ rfl
  have d2 := htc 2 _ rfl
  have d3 := htc 3 _ rfl
  have d4 := htc 4 _ rfl
  have d5 := htc 5 _ rfl
  have d6 := htc 6 _ rfl
  have d7 := htc 7 _ rfl
  have d8 := htc 8 _ rfl
  have d9 := htc 9 _ rfl
  have d10 := htc 10 _ rfl
  have d11 := htc 11 _ rfl
  have d12 := htc 12 _ rfl
  simp only [show Qs.k = 13 from rfl, Nat.add_zero] at d0 d1 d2 d3 d4 d5 d6 d7 d8 d9 d10 d11 d12
  have HTN := Qq htn; have HTK := Qq htk
  clear hx htn htk htR htc htlen
  go_upto_region 5 with fail
  obtain ⟨W5, hW5⟩ := eX (wr.alloc (.cells #[.string ⟨t.name.toArray⟩, .slice cp9 t.columns.length cc9, .slice kp9 t.key.length kc9, .slice rp9 t.refs.length rc9, .int .i64 k9, .string s19, .int .i64 n9, .string s29, .slice p19 n19 c19, .slice p29 n29 c29, .slice p39 n39 c39, .int .i64 a9, .int .i64 z9] 37))
  rw [hW5]
  have hb5 := eqB hW5 (Qo _ _)
  have hX5 := eqH (b := wr.heap.size) hW5 (Qw _ _)
  have x0 := rA0 hX5
  have HO5 := Qq (HO.out.below hb5); have HB5 := Qq (HBr.out.trans (hb5.mono hsr))
  have hsz5 : W1.heap.size ≤ W5.heap.size := by have := hb5.size; omega
  clear hW5 hb5 hX5 d0 d1 d2 d3 d4 d5 d6 d7 d8 d9 d10 d11 d12
  go_wp2_with (at_builtin; refine Zm (r := Mo) (by decide) rfl (.tmp 13) (.tmp 17) _ rfl 57 i0 (.agg #[.string ⟨#[]⟩, .slice none 0 0]) 40 underlying28 HJ.out HJ2.out HJ3.out HJ4.out rfl (by omega) (fun _ => False) W1.heap.size W5 (.slice p k cap) ns css [.string ⟨t.name.toArray⟩, .slice none 0 0] t.name rfl HO5.out rfl ⟨rfl, HTN.out⟩ (by simp [Value.oneCell']) k HNS.out (by omega) hsz5 ?_; intro p7 cap7 css7 w7 hO7 hL7; have HO7 := Qq hO7; have HL7 := Qq hL7; clear hO7 hL7)
  go_roundw
  case measure => simp [intOf]; omega
  case rel => exact ⟨k + 1, p7, cap7, ns ++ [t.name], css7, by omega, by go_num, rfl, by have := HNS.out; simp [this], (show Aside _ from by have := HE.out; show _ = _; rw [this, HTK.out]), HO7.out, HB5.out.trans HL7.out.below⟩
 obtain rfl : k = n := by omega
 have hi2 : ¬ (k : Int) < (k : Int) := by omega
 go_wp2_with fail
 go_ret
 have hE := HE.out
 rw [List.take_of_length_le (by rw [HN.out]; exact Q9 _)] at hE
 have hO := R0 (HO.out.move hszW (fun b hb _ => rfl)) rfl
 rw [HNS.out] at hO
 refine ⟨p, cap, rfl, ?_, HBw.out⟩
 rw [hE, List.map_map] at hO
 exact hO
def M5 : List Bs := [[116, 121, 112, 101], [116, 97, 98, 108, 101], [107, 101, 121], [114, 101, 102], [116, 111], [99, 104, 101, 99, 107], [102, 117, 110], [112, 114, 111, 99], [108, 101, 116], [105, 110], [105, 102], [116, 104, 101, 110], [101, 108, 115, 101], [109, 97, 116, 99, 104], [105, 110, 115, 101, 114, 116], [100, 101, 108, 101, 116, 101], [97, 115], [119, 104, 101, 114, 101], [117, 112, 100, 97, 116, 101], [115, 101, 116], [119, 105, 116, 104], [97, 110, 100], [111, 114], [110, 111, 116], [116, 114, 117, 101], [102, 97, 108, 115, 101]]
theorem kwsR_eq (l : Bs) : M5.contains l = Ds l := by
 unfold Ds
 rw [Bool.eq_iff_iff, List.contains_iff_mem, List.contains_iff_mem]
 have h1 : ∀ x ∈ M5, x ∈ kws := by decide
 have h2 : ∀ x ∈ kws, x ∈ M5 := by decide
 exact ⟨h1 l, h2 l⟩
theorem Hq (w : World) : Calls prog 226 #[] w fun e w' => e = .returned (.slice (some ⟨w.heap.size, 0, none⟩) 26 26) ∧ w' = w.alloc (.cells (svs M5).toArray 9) := by
 go_enter func226, ntmps226
 go_wp2
 go_ret
 exact ⟨rfl, rfl⟩
theorem svs_get (ls : List Bs) (i : Nat) (h : i < ls.length) : (svs ls)[i]? = some (.string ⟨(ls.getD i []).toArray⟩) := by
 simp only [svs, List.getElem?_map, Qx h, Option.map_some, List.getD_eq_getElem?_getD, Option.getD_some]
 rfl
theorem N8 (ls : List Bs) (b c : Nat) (s : ByteArray) (w : World) (hl : ls.length ≤ 1000000) (hr : w.rangeAt b 0 (svs ls)) :
  Calls prog 225 #[.slice (some ⟨b, 0, none⟩) ls.length c, .string s] w fun e w' => e = .returned (.bool (ls.contains (bl s))) ∧ w = w' := by
 have HR := Qq hr; clear hr
 obtain ⟨n, hn⟩ := eX (ls.length)
 rw [hn] at hl ⊢
 have HN := Qq hn; clear hn
 obtain ⟨R, hR⟩ := eX (ls.contains (bl s))
 rw [hR]
 have HRR := Qq hR; clear hR
 go_enter func225, ntmps225
 go_wp2
 go_loop [5] (fun i => ∃ k : Nat, k ≤ n ∧ (∀ j, j < k → ls[j]? ≠ some (bl s)) ∧ i = .int .i64 k) (fun i => n - (intOf i).toNat)
 case atStart => exact ⟨0, Q8 _, fun j hj => by omega, rfl⟩
 obtain ⟨k, hk, hno, rfl⟩ := hrel
 have HNo := Qq hno; clear hno
 by_cases hlt : k < n
 ·obtain ⟨x, hx⟩ : ∃ x : ByteArray, (⟨(ls.getD k []).toArray⟩ : ByteArray) = x := ⟨_, rfl⟩
  have hc : w.cell? ⟨b, k, none⟩ = some (.string x) := by
   have := HR.out k _ (svs_get ls k (by rw [HN.out]; exact hlt))
   rw [Nat.zero_add, hx] at this; exact this
  have hg : ls[k]? = some (bl x) := by
   have hkl : k < ls.length := by rw [HN.out]; exact hlt
   rw [← hx, D7, List.getD_eq_getElem?_getD, Qx hkl]; rfl
  have HG := Qq hg; clear hg hx
  by_cases he : bl x = bl s
  ·have hb : (x.toList == s.toList) = true := by rw [Lib.toList_data, Lib.toList_data]; simpa using he
   have HE := Qq he; clear he
   go_wp2
   go_ret
   have e : R = true := by
    rw [← HRR.out, ← HE.out]; exact List.contains_iff_mem.2 (Qy HG.out)
   exact ⟨by rw [e]; rfl, rfl⟩
  have hb : (x.toList == s.toList) = false := by rw [Lib.toList_data, Lib.toList_data]; simpa using he
  have HE := Qq he; clear he
  go_wp2
  go_round
  case rel =>
   refine ⟨k + 1, by omega, fun j hj hjs => ?_, by go_num⟩
   by_cases hjk : j = k
   ·subst hjk; rw [HG.out] at hjs; exact HE.out (Qb hjs)
   exact HNo.out j (by omega) hjs
  case measure => simp [intOf]; omega
 go_wp2
 go_ret
 have e : R = false := by
  rw [← HRR.out, ← Bool.not_eq_true]
  intro hc
  obtain ⟨j, hj, e⟩ := List.getElem_of_mem (List.contains_iff_mem.1 hc)
  exact HNo.out j (by have := HN.out; omega) (by rw [Qx hj, e])
 exact ⟨by rw [e]; rfl, rfl⟩
theorem Hr (s : ByteArray) (w : World) : Calls prog 213 #[.string s] w fun e w' => e = .returned (.bool (Ds (bl s))) ∧ Below w.heap.size w w' := by
 have hk := kwsR_eq (bl s)
 have h2 : ∀ w : World, Calls prog 225 #[.slice (some ⟨w.heap.size, 0, none⟩) 26 26, .string s] (w.alloc (.cells (svs M5).toArray 9)) fun e w' => e = .returned (.bool (Ds (bl s))) ∧ (w.alloc (.cells (svs M5).toArray 9)) = w' := by
  intro w
  rw [← hk]
  exact N8 M5 w.heap.size 26 s _ (by decide) (fun j v hv => by
   rw [Qk _ w.heap.size (0 + j) _ _ _ (Qw w _)]
   simpa using hv)
 have HK := Qq h2; clear h2 hk
 go_enter func213, ntmps213
 go_wp2_with (first | (go_at_call 226; refine (Hq _).mono ?_; rintro e w' ⟨rfl, rfl⟩) | (go_at_call 225; refine (HK.out _).mono ?_; rintro e w' ⟨rfl, rfl⟩))
 go_ret
 exact ⟨rfl, (Qz _ _).alloc (Q9 _) _⟩
def Vj (c : UInt8) : Nat := if Lq c then 0 else if Jr c then 1 else if Gj c then 2 else if E8 c then 3 else if c == 95 then 4 else 5
def clsI (n : Int) : Int := if n = 9 ∨ n = 10 ∨ n = 13 ∨ n = 32 then 0 else if 97 ≤ n ∧ n ≤ 122 then 1 else if 65 ≤ n ∧ n ≤ 90 then 2 else if 48 ≤ n ∧ n ≤ 57 then 3 else if n = 95 then 4 else 5
theorem clsI_eq (c : UInt8) : ((Vj c : Nat) : Int) = clsI c.toNat := by
 have e95 := B6 c 95
 rw [show ((95 : UInt8).toNat : Int) = 95 from rfl] at e95
 unfold Vj clsI
 rw [Kx, Kw, Fa, Li, e95]
 simp only [Bool.or_eq_true, beq_iff_eq, Bool.and_eq_true, decide_eq_true_eq]
 (repeat' split) <;> omega
theorem Om (c : UInt8) (w : World) : Calls prog 212 #[.int .u8 c.toNat] w fun e w' => e = .returned (.int .i64 (Vj c)) ∧ w = w' := by
 rw [clsI_eq]
 obtain ⟨n, hn⟩ : ∃ n : Int, (c.toNat : Int) = n := ⟨_, rfl⟩
 rw [hn]
 clear hn
 go_enter func212, ntmps212
 go_wp2
 all_goals (go_ret; refine ⟨Ul ?_, rfl⟩; unfold clsI)
 all_goals (try simp only [beq_iff_eq, beq_eq_false_iff_ne, ne_eq] at *)
 all_goals ((repeat' split) <;> omega)
theorem En (P : UInt8 → Bool) (h : (List.range 256).all (fun n => P (UInt8.ofNat n)) = true) (c : UInt8) : P c = true := by
 have := List.all_eq_true.1 h c.toNat (by simpa using c.toNat_lt)
 simpa using this
theorem cls_wo (c : UInt8) : Js c = decide (Vj c = 1 ∨ Vj c = 3 ∨ Vj c = 4) := by
 have := En (fun c => Js c == decide (Vj c = 1 ∨ Vj c = 3 ∨ Vj c = 4)) (by decide +kernel) c
 simpa using this
theorem cls_na (c : UInt8) : Fj c = decide (1 ≤ Vj c ∧ Vj c ≤ 3) := by
 have := En (fun c => Fj c == decide (1 ≤ Vj c ∧ Vj c ≤ 3)) (by decide +kernel) c
 simpa using this
theorem cls_lo (c : UInt8) : Jr c = decide (Vj c = 1) := by
 have := En (fun c => Jr c == decide (Vj c = 1)) (by decide +kernel) c
 simpa using this
theorem cls_up (c : UInt8) : Gj c = decide (Vj c = 2) := by
 have := En (fun c => Gj c == decide (Vj c = 2)) (by decide +kernel) c
 simpa using this
theorem U8 (c : UInt8) (v : Nat) (h : Vj c = v) (w : World) : Calls prog 212 #[.int .u8 c.toNat] w fun e w' => e = .returned (.int .i64 v) ∧ w = w' := by
 rw [← h]; exact Om c w
theorem N0 (s : ByteArray) (a : Nat) (w : World) (hs : s.size ≤ 16) (ha : a < s.size) (hcl : Vj (s[a]'ha) = 1) (hall : ∀ (k : Nat) (h : k < s.size), Vj (s[k]'h) = 1 ∨ Vj (s[k]'h) = 3 ∨ Vj (s[k]'h) = 4) (hkw : Ds (bl (s.extract a s.size)) = false) :
  Calls prog 198 #[.string s, .int .i64 a] w fun e w' => e = .returned (.tuple #[.int .i64 2, .int .i64 s.size]) ∧ Below w.heap.size w w' := by
 have HCl := Qq hcl; clear hcl
 have HAll := Qq hall; clear hall
 have hk0 := fun W => Hr (s.extract a s.size) W
 rw [hkw] at hk0
 have HKW := Qq hk0
 clear hk0 hkw
 go_enter func198, ntmps198
 go_wp2_with (go_at_call 212; refine (U8 _ 1 HCl.out _).mono ?_; rintro e w' ⟨rfl, rfl⟩)
 go_loop [7] (fun i => ∃ k : Nat, a + 1 ≤ k ∧ k ≤ s.size ∧ i = .int .i64 k) (fun i => s.size - (intOf i).toNat)
 case atStart => exact ⟨a + 1, Q9 _, ha, by go_num⟩
 obtain ⟨k, hk1, hk2, rfl⟩ := hrel
 by_cases hlt : k < s.size
 ·obtain ⟨v, hv⟩ := eX (Vj (s[k]'hlt))
  have hc := HAll.out k hlt
  rw [hv] at hc
  have HV := Qq hv; clear hv
  rcases hc with hc | hc | hc
  ·have q0 : ((v : Int) == 1) = true := by simpa using (by omega : (v : Int) = 1)
   clear hc
   go_wp2_with (go_at_call 212; refine (U8 _ v HV.out _).mono ?_; rintro e w' ⟨rfl, rfl⟩)
   go_round
   case rel => exact ⟨k + 1, by omega, by omega, by go_num⟩
   case measure => simp [intOf]; omega
  ·have q0 : ((v : Int) == 1) = false := by simpa using (by omega : ¬ (v : Int) = 1)
   have q1 : ((v : Int) == 3) = true := by simpa using (by omega : (v : Int) = 3)
   clear hc
   go_wp2_with (go_at_call 212; refine (U8 _ v HV.out _).mono ?_; rintro e w' ⟨rfl, rfl⟩)
   go_round
   case rel => exact ⟨k + 1, by omega, by omega, by go_num⟩
   case measure => simp [intOf]; omega
  have q0 : ((v : Int) == 1) = false := by simpa using (by omega : ¬ (v : Int) = 1)
  have q1 : ((v : Int) == 3) = false := by simpa using (by omega : ¬ (v : Int) = 3)
  have q2 : ((v : Int) == 4) = true := by simpa using (by omega : (v : Int) = 4)
  clear hc
  go_wp2_with (go_at_call 212; refine (U8 _ v HV.out _).mono ?_; rintro e w' ⟨rfl, rfl⟩)
  go_round
  case rel => exact ⟨k + 1, by omega, by omega, by go_num⟩
  case measure => simp [intOf]; omega
 obtain rfl : k = s.size := by omega
 go_wp2_with (go_at_call 213; refine (HKW.out _).mono ?_; rintro e w' ⟨rfl, hw⟩)
 go_ret2
 exact ⟨rfl, hw⟩
theorem P0 (s : ByteArray) (a : Nat) (w : World) (hs : s.size ≤ 16) (ha : a < s.size) (hcl : Vj (s[a]'ha) = 2) (hall : ∀ (k : Nat) (h : k < s.size), 1 ≤ Vj (s[k]'h) ∧ Vj (s[k]'h) ≤ 3) :
  Calls prog 198 #[.string s, .int .i64 a] w fun e w' => e = .returned (.tuple #[.int .i64 3, .int .i64 s.size]) ∧ Below w.heap.size w w' := by
 have HCl := Qq hcl; clear hcl
 have HAll := Qq hall; clear hall
 go_enter func198, ntmps198
 go_wp2_with (go_at_call 212; refine (U8 _ 2 HCl.out _).mono ?_; rintro e w' ⟨rfl, rfl⟩)
 go_loop [7] (fun i => ∃ k : Nat, a + 1 ≤ k ∧ k ≤ s.size ∧ i = .int .i64 k) (fun i => s.size - (intOf i).toNat)
 case atStart => exact ⟨a + 1, Q9 _, ha, by go_num⟩
 obtain ⟨k, hk1, hk2, rfl⟩ := hrel
 by_cases hlt : k < s.size
 ·obtain ⟨v, hv⟩ := eX (Vj (s[k]'hlt))
  have hc := HAll.out k hlt
  rw [hv] at hc
  have HV := Qq hv; clear hv
  have q0 : decide ((1 : Int) ≤ (v : Int)) = true := by simp; omega
  have q1 : decide ((v : Int) ≤ 3) = true := by simp; omega
  clear hc
  go_wp2_with (go_at_call 212; refine (U8 _ v HV.out _).mono ?_; rintro e w' ⟨rfl, rfl⟩)
  go_round
  case rel => exact ⟨k + 1, by omega, by omega, by go_num⟩
  case measure => simp [intOf]; omega
 obtain rfl : k = s.size := by omega
 go_wp2_with fail
 go_ret2
 exact ⟨rfl, Qz _ _⟩
def Fp (s : ByteArray) (K : Int) : Prop := ∀ W, Calls prog 198 #[.string s, .int .i64 0] W fun e w' => e = .returned (.tuple #[.int .i64 K, .int .i64 s.size]) ∧ Below W.heap.size W w'
theorem Ot (x : Bs) (h : Yt x) : Fp ⟨x.toArray⟩ 2 := by
 intro W
 have hsz := Yh x
 have hp : 0 < (⟨x.toArray⟩ : ByteArray).size := by rw [hsz]; exact h.pos
 have ha : ∀ (k : Nat) (hk : k < (⟨x.toArray⟩ : ByteArray).size), Js ((⟨x.toArray⟩ : ByteArray)[k]'hk) = true := fun k hk =>
  Eu (p := Js) (l := x) (by rw [h.all, ← hsz]; exact hk) (Kn x k hk)
 have hlo : Jr ((⟨x.toArray⟩ : ByteArray)[0]'hp) = true := h.head _ (Kn x 0 hp)
 have := N0 ⟨x.toArray⟩ 0 W (by rw [hsz]; exact h.len) hp (by rw [cls_lo] at hlo; simpa using hlo) (fun k hk => by have := ha k hk; rw [cls_wo] at this; simpa using this) (by rw [hsz, Dp, D7]; exact h.kw)
 exact this
theorem rtok_cap (x : Bs) (h : D9 x) : Fp ⟨x.toArray⟩ 3 := by
 intro W
 have hsz := Yh x
 have hp : 0 < (⟨x.toArray⟩ : ByteArray).size := by rw [hsz]; exact h.pos
 have ha : ∀ (k : Nat) (hk : k < (⟨x.toArray⟩ : ByteArray).size), Fj ((⟨x.toArray⟩ : ByteArray)[k]'hk) = true := fun k hk =>
  Eu (p := Fj) (l := x) (by rw [h.all, ← hsz]; exact hk) (Kn x k hk)
 have hlo : Gj ((⟨x.toArray⟩ : ByteArray)[0]'hp) = true := h.head _ (Kn x 0 hp)
 have := P0 ⟨x.toArray⟩ 0 W (by rw [hsz]; exact h.len) hp (by rw [cls_up] at hlo; simpa using hlo) (fun k hk => by have := ha k hk; rw [cls_na] at this; simpa using this)
 exact this
theorem rnext_at (s : ByteArray) (K : Int) (hp : 0 < s.size) (h : Fp s K) (W : World) :
  Calls prog 183 #[.string s, .int .i64 0] W fun e w' => e = .returned (.tuple #[.int .i64 K, .int .i64 s.size]) ∧ Below W.heap.size W w' := by
 have HG := Qq h
 clear h
 have h1 : (0 : Int) < (s.size : Int) := by omega
 go_enter func183, ntmps183
 go_wp2_with (go_at_call 198; refine (HG.out _).mono ?_; rintro e w' ⟨rfl, hw⟩)
 go_ret2
 exact ⟨rfl, hw⟩
theorem Rs (w : World) (xs : List Value) (t : TypeId) : ∀ j u, xs[j]? = some u → (w.alloc (.cells xs.toArray t)).cell? ((⟨w.heap.size, 0, none⟩ : Addr).add j) = some u := by
 intro j u h
 rw [show (⟨w.heap.size, 0, none⟩ : Addr).add j = ⟨w.heap.size, j, none⟩ by unfold Addr.add; split <;> simp_all]
 rw [Qk _ w.heap.size j _ _ _ (Qw w _)]
 simpa using h
theorem Gn {w w' : World} {B : Nat} {e : TypeId} {sz n : Nat} {v : Value} {xs : List Value} (h : w.ownsRow B e sz v n xs) (hb : Below w.heap.size w w') : w'.ownsRow B e sz v n xs := Ui h hb
theorem Lu (s : ByteArray) (K : Int) (hp : 0 < s.size) (hl : s.size ≤ 16) (h : Fp s K) (w : World) :
  Calls prog 141 #[.string s] w fun e w' => ∃ g cap, e = .returned (.slice (some ⟨g, 0, none⟩) 1 cap) ∧ w'.cell? ⟨g, 0, none⟩ = some (.int .i64 K) ∧ Below w.heap.size w w' := by
 have HN := Qq (fun W => rnext_at s K hp h W)
 clear h
 obtain ⟨i0, hi, hz0, hz1, hz2⟩ := Ze (P := prog) (t := 135) (z := .agg #[.int .i64 0, .string ⟨#[]⟩, .int .i64 0]) (n := 3) (b := 32) (by kernel_rfl)
 have H1 := Qq hi; have H2 := Qq hz0; have H3 := Qq hz1; have H4 := Qq hz2
 clear hi hz0 hz1 hz2
 go_enter func141, ntmps141
 go_wp2_with fail
 go_loopw [3, 4, 5, 6] (fun o x _ _ wr => ∃ (a n : Nat) (pre : List Value), a ≤ s.size ∧ Aside ((a = 0 ∧ n = 0 ∧ pre = []) ∨ (a = s.size ∧ n = 1 ∧ pre = [.int .i64 K, .string s, .int .i64 0])) ∧ x = .int .i64 a ∧ wr.ownsRow w.heap.size 135 3 o n pre ∧ Below w.heap.size w wr) (fun _ x _ _ _ => s.size - (intOf x).toNat)
 case atStart => exact ⟨0, 0, [], by omega, .inl ⟨rfl, rfl, rfl⟩, rfl, World.ownsRow_nil _ _ _ _, Qz _ _⟩
 obtain ⟨a, n, pre, ha, hd, rfl, hown, hB⟩ := hrel
 have HB := Qq hB; have HO := Qq hown
 clear hB hown
 by_cases hlt : a < s.size
 ·have hd0 : a = 0 ∧ n = 0 ∧ pre = [] := by
   rcases hd.out with h | h
   ·exact h
   exact absurd h.1 (by omega)
  obtain ⟨rfl, rfl, rfl⟩ := hd0
  clear hd
  have h1 : (0 : Int) < (s.size : Int) := by omega
  go_wp2_with fail
  refine (HN.out _).mono ?_
  rintro e w2 ⟨rfl, hw⟩
  have hown2 := Gn HO.out hw
  have hB2 := HB.out.trans (hw.mono HB.out.size)
  have HB2 := Qq hB2; have HO2 := Qq hown2
  clear hw hown2 hB2
  go_wp2_with (at_builtin; refine wpList_append_own _ rfl _ _ 156 rfl w.heap.size 135 i0 (.agg #[.int .i64 0, .string ⟨#[]⟩, .int .i64 0]) 3 32 underlying156 H1.out H2.out H3.out H4.out rfl (by decide) _ _ _ rfl (HO2.out.alloc _) ⟨w2.heap.size, 0, none⟩ 1 1 [.int .i64 K, .string s, .int .i64 0] rfl rfl (Rs _ _ _) (by simp [Value.oneCell']) (by unfold maxLen; omega) (by omega) (by have := HB2.out.size; simp; omega) ?_; intro v' w1 hown' hgrow _)
  refine ⟨⟨s.size, 1, [.int .i64 K, .string s, .int .i64 0], Q9 _, .inr ⟨rfl, rfl, rfl⟩, rfl, by simpa using hown', ?_⟩, by simp [intOf]; omega⟩
  exact (HB2.out.alloc HB2.out.size _).grown hgrow (by have := HB2.out.size; simp; omega) (fun j e => (HO2.out.lt j e).1)
 have hd1 : n = 1 ∧ pre = [.int .i64 K, .string s, .int .i64 0] := by
  rcases hd.out with h | h
  ·exact absurd h.1 (by omega)
  exact h.2
 obtain ⟨rfl, rfl⟩ := hd1
 clear hd
 go_wp2_with fail
 go_ret
 rcases HO.out.2 with ⟨_, hn⟩ | ⟨g, cap, cur, rfl, _, hg, _, _, _, ht⟩
 ·cases hn
 exact ⟨g, cap, rfl, Fk hg ht rfl, HB.out⟩
theorem L3 (s : ByteArray) (K at' : Int) (hK : K = 2 ∨ K = 3) (hp : 0 < s.size) (hl : s.size ≤ 16) (h : Fp s K) (w : World) :
  Calls prog 115 #[.agg #[.int .i64 K, .string s, .int .i64 at']] w fun e w' => e = .returned (.bool true) ∧ Below w.heap.size w w' := by
 have HS := Qq (fun W => Lu s K hp hl h W)
 clear h
 go_enter func115, ntmps115
 go_wp2_with fail
 have hB1 : Below w.heap.size w (w.alloc (.cells #[.int .i64 K, .string s, .int .i64 at'] 135)) := (Qz _ _).alloc (Q9 _) _
 have c0 : (w.alloc (.cells #[.int .i64 K, .string s, .int .i64 at'] 135)).cell? ⟨w.heap.size, 0, none⟩ = some (.int .i64 K) := by rw [Qk _ w.heap.size 0 _ _ _ (Qw w _)]; rfl
 have c1 : (w.alloc (.cells #[.int .i64 K, .string s, .int .i64 at'] 135)).cell? ⟨w.heap.size, 1, none⟩ = some (.string s) := by rw [Qk _ w.heap.size 1 _ _ _ (Qw w _)]; rfl
 have HB1 := Qq hB1; clear hB1
 generalize hG : w.heap.size = G at c0 c1 ⊢
 generalize w.alloc (.cells #[.int .i64 K, .string s, .int .i64 at'] 135) = W1 at *
 refine (HS.out _).mono ?_
 rintro e w2 ⟨g, cap, rfl, e0, hb2⟩
 have d0 := (hb2.cell (p := ⟨G, 0, none⟩) (Qv W1 _ c0)).trans c0
 have d1 := (hb2.cell (p := ⟨G, 1, none⟩) (Qv W1 _ c1)).trans c1
 have HB2 := Qq (HB1.out.trans (hb2.mono HB1.out.size))
 clear hb2 c0 c1 hG
 rcases hK with rfl | rfl
 all_goals
  go_wp2_with fail
  go_quiet (fail)
  go_wp2_with fail
  go_ret
  refine ⟨?_, HB2.out.trans ((Zy _ _).mono HB2.out.size)⟩
  show Ending.returned (.bool (decide ((s.size : Int) ≤ 16))) = _
  rw [decide_eq_true (by omega)]
theorem Gw (x : Bs) (h : Yt x) (w : World) : Calls prog 115 #[.agg #[.int .i64 2, sv x, .int .i64 0]] w fun e w' => e = .returned (.bool true) ∧ Below w.heap.size w w' :=
 L3 ⟨x.toArray⟩ 2 0 (.inl rfl) (by rw [Yh]; exact h.pos) (by rw [Yh]; exact h.len) (Ot x h) w
theorem Pq (x : Bs) (h : D9 x) (w : World) : Calls prog 115 #[.agg #[.int .i64 3, sv x, .int .i64 0]] w fun e w' => e = .returned (.bool true) ∧ Below w.heap.size w w' :=
 L3 ⟨x.toArray⟩ 3 0 (.inr rfl) (by rw [Yh]; exact h.pos) (by rw [Yh]; exact h.len) (rtok_cap x h) w
end Go.Proofs.YtppbaladeefnkaaGreatDoor
