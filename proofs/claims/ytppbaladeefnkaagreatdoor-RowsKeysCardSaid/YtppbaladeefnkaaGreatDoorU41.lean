import Derived.Test.YtppbaladeefnkaaGreatDoorU36
import Derived.Test.YtppbaladeefnkaaGreatDoorU40
set_option maxRecDepth 100000
set_option maxHeartbeats 400000000
namespace Go.Proofs.YtppbaladeefnkaaGreatDoor
open Go.RowKit Go.Shelf Go.Lib Tryz
structure O9 (s : Sc) : Prop where
 sums : Vb s.sums
 gen : ∀ t ∈ s.tables, Jz t
 ok : ∀ t ∈ s.tables, Ly t
 few : s.tables.length ≤ 20
 once : (s.tables.map Tbl.name).Nodup
structure Va (s : Sc) (c : Nat) (l : List Rel) : Prop where
 tabs : l.map Rel.table = s.tables.map Tbl.name
 rows : ∀ r ∈ l, ∀ v ∈ r.rows, Xo v
 few : ∀ r ∈ l, r.rows.length ≤ c
 up : ∀ r ∈ l, UpV r.rows
theorem Va.len {s : Sc} {c : Nat} {l : List Rel} (h : Va s c l) : l.length = s.tables.length := by have := congrArg List.length h.tabs; simpa using this
theorem Va.mono {s : Sc} {c d : Nat} {l : List Rel} (h : Va s c l) (hc : c ≤ d) : Va s d l := ⟨h.tabs, h.rows, fun r hr => Qc (h.few r hr) hc, h.up⟩
theorem Nj (s : Sc) : Va s 5 (Yd s) := by
 refine ⟨by simp [Yd, Function.comp_def], fun r hr => ?_, fun r hr => ?_, fun r hr => ?_⟩
 all_goals
  unfold Yd at hr
  obtain ⟨t, _, rfl⟩ := List.mem_map.1 hr
  simp [UpV]
theorem Bn {l : List Val} {x y : Val} (h : y ∈ Uw l x) : y ∈ l ∨ y = x := by
 unfold Uw at h
 split at h
 ·exact .inl h
 rcases List.mem_append.1 h with h | h
 ·exact .inl (List.mem_of_mem_take h)
 rcases List.mem_cons.1 h with h | h
 ·exact .inr h
 exact .inl (List.mem_of_mem_drop h)
theorem Lf (l : List Val) (x : Val) : (Uw l x).length ≤ l.length + 1 := by
 unfold Uw
 split
 ·omega
 rw [List.length_append, List.length_cons, List.length_take, List.length_drop]; omega
theorem Va.ins {s : Sc} {c : Nat} {l : List Rel} (h : Va s c l) (x : Bs) (v : Val) (hv : Xo v) (hc : ∀ i r, Xe l x = some i → l[i]? = some r → r.rows.length < c) : Va s c (J0 l x v) := by
 cases ha : Xe l x with
 | none => rw [Ko ha]; exact h
 | some i =>
  obtain ⟨r, hr⟩ : ∃ r, l[i]? = some r := by
   unfold Xe at ha
   have := (List.findIdx?_eq_some_iff_getElem.1 ha).1
   exact ⟨_, Qx this⟩
  rw [Dk ha hr]
  have hm := Qy hr
  have hi := hc i r ha hr
  have hmem : ∀ q ∈ l.set i ⟨r.table, Uw r.rows v⟩, q ∈ l ∨ q = ⟨r.table, Uw r.rows v⟩ := fun q hq => List.mem_or_eq_of_mem_set hq
  refine ⟨?_, fun q hq u hu => ?_, fun q hq => ?_, fun q hq => ?_⟩
  ·rw [← h.tabs, List.map_set]
   obtain ⟨h1, rfl⟩ := Qj hr
   apply List.ext_getElem?
   intro j
   rw [List.getElem?_set]
   split
   ·rename_i e
    subst e
    simp [h1]
   rfl
  ·rcases hmem q hq with hq | rfl
   ·exact h.rows q hq u hu
   rcases Bn hu with hu | rfl
   ·exact h.rows r hm u hu
   exact hv
  ·rcases hmem q hq with hq | rfl
   ·exact h.few q hq
   have := Lf r.rows v
   show (Uw r.rows v).length ≤ c
   omega
  rcases hmem q hq with hq | rfl
  ·exact h.up q hq
  exact putV_up (h.up r hm) v
theorem Va.at_ {s : Sc} {c : Nat} {l : List Rel} (h : Va s c l) (hd : (s.tables.map Tbl.name).Nodup) {i : Nat} {t : Tbl} (ht : s.tables[i]? = some t) : Xe l t.name = some i := by
 have hi : i < l.length := by rw [h.len]; exact (Qj ht).1
 have hn : ∀ j (hj : j < l.length), (l[j]).table = (s.tables.map Tbl.name)[j]'(by rw [← h.tabs]; simpa using hj) := fun j hj => by
  have : (l.map Rel.table)[j]'(by simpa using hj) = (l[j]).table := by simp
  rw [← this]
  simp only [h.tabs]
 have hti : (s.tables.map Tbl.name)[i]'(by rw [← h.tabs]; simpa using hi) = t.name := by
  obtain ⟨h1, rfl⟩ := Qj ht
  simp
 unfold Xe
 refine List.findIdx?_eq_some_iff_getElem.2 ⟨hi, by simp [hn i hi, hti], fun j hj => ?_⟩
 have hjl : j < l.length := by omega
 have : (l[j]).table ≠ t.name := by
  rw [hn j hjl, ← hti]
  intro e
  exact (List.pairwise_iff_getElem.1 hd) j i (by rw [← h.tabs]; simpa using hjl) (by rw [← h.tabs]; simpa using hi) hj e
 simpa using this
def Uj (s : Sc) (c : Nat) (W0 wr : World) (v : Value) (n : Nat) : Prop := ∃ l css, Va s c l ∧ l.length = n ∧ Own Zs 57 (fun b => W0.heap.size ≤ b) W0.heap.size wr v l css
def StateIs' (s : Sc) (c : Nat) (w : World) (e : Ending) (w' : World) : Prop := ∃ l p cap css, e = .returned (.slice p l.length cap) ∧ Va s c l ∧ Own Zs 57 (fun b => w.heap.size ≤ b) w.heap.size w' (.slice p l.length cap) l css ∧ Below w.heap.size w w'
theorem Vb.ok {us : List Sm} (h : Vb us) : Ku us := fun u hu c hc => (h u hu c hc).1
theorem Uj.grow {s : Sc} {c : Nat} {W0 wr wr' : World} {v : Value} {n : Nat} (h : Uj s c W0 wr v n) (hb : Below wr.heap.size wr wr') : Uj s c W0 wr' v n := by
 obtain ⟨l, css, h1, h2, h3⟩ := h
 exact ⟨l, css, h1, h2, h3.below hb⟩
theorem Mx (HCk : Kf) (s : Sc) (hS : O9 s) (S0 S3 : Nat → Prop) (cs : List Value) (nv : Value) (ns : List Int) (w : World) (hs : Yl S0 w cs s) (hn0 : Y4 S3 w nv ns) (hi : Vw ns) :
  Calls prog 31 #[.agg cs.toArray, nv] w (StateIs' s 5 w) := by
 have HEm := Qq (fun W (hW : Below w.heap.size w W) => Nz S0 s cs W (hs.below hW) (by have := hS.few; omega))
 have HSc := Qq hs; have HNs := Qq hn0; have HGen := Qq hS
 have HPk := Qq (fun (k : Nat) W (hW : Below w.heap.size w W) => Zr S3 nv ns (k + 1) 5 W (hn0.below hW) hi (by omega) (by omega))
 obtain ⟨uv, tv, rfl, hu, ht⟩ := hs
 obtain ⟨up, uc, rfl, _⟩ := hu.len
 obtain ⟨tp, tc, rfl, _⟩ := ht.len
 obtain ⟨np, nc, rfl, _⟩ := hn0.len
 obtain ⟨n, hn⟩ := eX (s.tables.length)
 have hn9 : n ≤ 20 := by have := hS.few; omega
 have he : (Yd s).length = n := by rw [← hn]; simp [Yd]
 unfold Rv at HEm
 rw [hn] at ht HSc HEm ⊢
 rw [he] at HEm
 have HT := Qq ht; have HN := Qq hn; have HI := Qq hi
 clear hu ht hn0 hn he hS hi
 simp only [Int.natCast_add, Int.cast_ofNat_Int] at HPk
 go_enter func31, ntmps31
 go_upto_region 1 with fail
 generalize hW1 : w.alloc _ = W1
 have hb1 := eqB hW1 (Qo _ _)
 have hX1 := eqH (b := w.heap.size) hW1 (Qw _ _)
 have HB1 := Qq hb1; have HX1 := Qq hX1
 obtain ⟨c0, c1⟩ := row2 hX1
 clear hW1 hb1 hX1
 have hlt1 := Qf HX1.out
 go_upto_region 2 with (go_at_call 30; refine (HEm.out _ HB1.out).mono ?_; rintro e w2 ⟨p2, cap2, css2, rfl, hO2, hb2⟩; have HO2 := Qq hO2; have HB2 := Qq (show Below W1.heap.size W1 w2 from hb2); clear hO2 hb2)
 have hst : Uj s 5 w w2 (.slice p2 n cap2) n := ⟨Yd s, css2, Nj s, by rw [← HN.out]; simp [Yd], HO2.out.weak (by omega) (fun b _ h => by rcases h with h | h; exact h.elim; exact (by omega))⟩
 have HSt := Qq hst
 clear hst HEm c0 c1
 go_wp2_with fail
 go_loopw [5, 6, 7, 8, 9, 10] (fun t5 t6 _ _ _ _ wr => ∃ (k : Nat) (p : Option Addr) (cap : Nat), k ≤ 3 ∧ t5 = .slice p n cap ∧ t6 = .int .i64 k ∧ Aside (Uj s 5 w wr (.slice p n cap) n ∧ Below W1.heap.size W1 wr)) (fun _ t6 _ _ _ _ _ => 3 - (intOf t6).toNat)
 case atStart => exact ⟨0, _, _, Q8 _, rfl, rfl, ⟨HSt.out, HB2.out⟩⟩
 obtain ⟨ps, pa, capa, hbps, rfl, rfl, hA⟩ := hrel
 have HSta := Qq hA.out.1; have HBa := Qq hA.out.2
 clear hA
 by_cases hps : ps < 3
 ·have g1 : (ps : Int) < 3 := by omega
  go_upto_region 6 with fail
  go_loopw [5, 7, 8, 9, 10] (fun t5 t7 _ _ _ wr => ∃ (k : Nat) (p : Option Addr) (cap : Nat), k ≤ n ∧ t5 = .slice p n cap ∧ t7 = .int .i64 k ∧ Aside (Uj s 5 w wr (.slice p n cap) n ∧ Below W1.heap.size W1 wr)) (fun _ t7 _ _ _ _ => n - (intOf t7).toNat)
  case atStart => exact ⟨0, _, _, Q8 _, rfl, rfl, ⟨HSta.out, HBa.out⟩⟩
  obtain ⟨i, pb, capb, hbi, rfl, rfl, hA⟩ := hrel
  have HStb := Qq hA.out.1; have HBb := Qq hA.out.2
  clear hA
  have hXb := kE HBb.out hlt1 HX1.out
  have c1 := rA1 hXb
  clear hXb
  by_cases hin : i < n
  ·have g2 : (i : Int) < (n : Int) := by omega
   have g3 : (0 : Int) ≤ (i : Int) := by omega
   go_upto_region 9 with fail
   clear c1
   go_loopw [5, 8, 9, 10] (fun t5 t8 _ _ wr => ∃ (k : Nat) (p : Option Addr) (cap : Nat), k ≤ 3 ∧ t5 = .slice p n cap ∧ t8 = .int .i64 k ∧ Aside (Uj s 5 w wr (.slice p n cap) n ∧ Below W1.heap.size W1 wr)) (fun _ t8 _ _ _ => 3 - (intOf t8).toNat)
   case atStart => exact ⟨0, _, _, Q8 _, rfl, rfl, ⟨HStb.out, HBb.out⟩⟩
   obtain ⟨k, pc, capc, hbk, rfl, rfl, hA⟩ := hrel
   have HStc := Qq hA.out.1; have HBc := Qq hA.out.2
   clear hA
   have HWc := Qq (HB1.out.thn HBc.out)
   by_cases hk : k < 3
   ·have g4 : (k : Int) < 3 := by omega
    obtain ⟨l, css, hg, hll, hO⟩ := HStc.out
    have hSl : Sl Zs (fun b => w.heap.size ≤ b) wr (.slice pc n capc) l := by
     have := hO.sl (S' := fun b => w.heap.size ≤ b) (by omega) (fun _ h => h) (fun _ _ h => h)
     exact this
    obtain ⟨r, hr⟩ : ∃ r, l[i]? = some r := ⟨_, Qx (by omega)⟩
    obtain ⟨lb, loff, rcs, hlp, hlb, hlS, _, ⟨rv, hrcs, hrt, hrv, hrc⟩, hrd⟩ := hSl.elem hr
    subst hlp; subst hrcs
    obtain ⟨q, m, hrv', _⟩ := hrc
    obtain ⟨mr, hmr⟩ := eX (r.rows.length)
    rw [hmr] at hrv'
    subst hrv'
    have e1 := hrd 1 _ rfl
    rw [show Zs.k = 2 from rfl] at e1
    have HGl := Qq hg; have HSl := Qq hSl; have HR := Qq hr; have HMr := Qq hmr
    clear hg hO hSl hr hrd hrt hrv hmr css
    by_cases hm5 : mr < 5
    ·have g5 : (mr : Int) < 5 := by omega
     obtain ⟨a, ha⟩ : ∃ a : Nat, 11 * (ps : Int) + 5 * (i : Int) + 3 * (k : Int) = (a : Int) := ⟨11 * ps + 5 * i + 3 * k, by omega⟩
     have ha9 : a ≤ 1000 := by omega
     have HPa := Qq (HPk.out a)
     obtain ⟨z, hz⟩ := eX (Zo ns (a + 1) 5)
     rw [hz] at HPa
     clear hz
     go_upto_region 12 with fail
     by_cases hz0 : z = 0
     ·subst hz0
      go_wp2_with (go_at_call 26; refine (HPa.out _ HWc.out).mono ?_; rintro e w' ⟨rfl, rfl⟩)
      go_roundw
      case measure => simp [intOf]; omega
      case rel => exact ⟨k + 1, _, _, by omega, rfl, by go_num, HStc.out, HBc.out⟩
     have hq : (z == 0) = false := by rw [← Bool.not_eq_true, beq_iff_eq]; exact hz0
     obtain ⟨t, ht⟩ : ∃ t, s.tables[i]? = some t := ⟨_, Qx (by rw [HN.out]; exact hin)⟩
     obtain ⟨tb, toff, tcs', htp, htb, _, _, hTR, htc⟩ := (HT.out.below HWc.out).elem ht
     subst htp
     obtain ⟨cp9, cc9, kp9, kc9, rp9, rc9, k9, s19, n9, s29, p19, n19, c19, p29, n29, c29, p39, n39, c39, a9, z9, hcs, _⟩ := Zk hTR
     simp only [tcs] at hcs
     subst hcs
     have hXc := kE HBc.out hlt1 HX1.out
     obtain ⟨c0, c1⟩ := row2 hXc
     have d0 := htc 0 _ rfl; have d1 := htc 1 _ rfl; have d2 := htc 2 _ rfl; have d3 := htc 3 _ rfl; have d4 := htc 4 _ rfl; have d5 := htc 5 _ rfl; have d6 := htc 6 _ rfl; have d7 := htc 7 _ rfl; have d8 := htc 8 _ rfl; have d9 := htc 9 _ rfl; have d10 := htc 10 _ rfl; have d11 := htc 11 _ rfl; have d12 := htc 12 _ rfl
     rw [show Qs.k = 13 from rfl] at d0 d1 d2 d3 d4 d5 d6 d7 d8 d9 d10 d11 d12
     rw [Nat.add_zero] at d0
     try unfold sv at d0
     have HTR := Qq hTR; have HTm := Qq (Qy ht); have HTi := Qq ht
     clear hXc htc hTR ht e1
     go_upto_region 13 with (go_at_call 26; refine (HPa.out _ HWc.out).mono ?_; rintro e w' ⟨rfl, rfl⟩)
     refine let_mvar% ?Lq1 := fun w' : World => w'.cell? ⟨w.heap.size, 0, none⟩ = some (.slice up s.sums.length uc) ∧ w'.cell? ⟨w.heap.size, 1, none⟩ = some (.slice (some ⟨tb, toff, none⟩) n tc) ∧ w'.cell? ⟨tb, toff + i * 13, none⟩ = some (.string ⟨t.name.toArray⟩) ∧ w'.cell? ⟨tb, toff + i * 13 + 1, none⟩ = some (.slice cp9 t.columns.length cc9) ∧ w'.cell? ⟨tb, toff + i * 13 + 2, none⟩ = some (.slice kp9 t.key.length kc9) ∧ w'.cell? ⟨tb, toff + i * 13 + 3, none⟩ = some (.slice rp9 t.refs.length rc9) ∧ w'.cell? ⟨tb, toff + i * 13 + 4, none⟩ = some (.int .i64 k9) ∧ w'.cell? ⟨tb, toff + i * 13 + 5, none⟩ = some (.string s19) ∧ w'.cell? ⟨tb, toff + i * 13 + 6, none⟩ = some (.int .i64 n9) ∧ w'.cell? ⟨tb, toff + i * 13 + 7, none⟩ = some (.string s29) ∧ w'.cell? ⟨tb, toff + i * 13 + 8, none⟩ = some (.slice p19 n19 c19) ∧ w'.cell? ⟨tb, toff + i * 13 + 9, none⟩ = some (.slice p29 n29 c29) ∧ w'.cell? ⟨tb, toff + i * 13 + 10, none⟩ = some (.slice p39 n39 c39) ∧ w'.cell? ⟨tb, toff + i * 13 + 11, none⟩ = some (.int .i64 a9) ∧ w'.cell? ⟨tb, toff + i * 13 + 12, none⟩ = some (.int .i64 z9) ∧ Below wr.heap.size wr w'; ?_
     have HS : ∀ w', Below wr.heap.size wr w' → ?Lq1 w' := by
      intro w' h
      have hh : ∀ {b j : Nat} {u : Value}, wr.cell? ⟨b, j, none⟩ = some u → w'.cell? ⟨b, j, none⟩ = some u := fun hc => kC h hc
      exact ⟨hh c0, hh c1, hh d0, hh d1, hh d2, hh d3, hh d4, hh d5, hh d6, hh d7, hh d8, hh d9, hh d10, hh d11, hh d12, h⟩
     obtain ⟨HS0, HSr, HD', HSB', HA', HSq⟩ := Yn HS (fun w' h => h.2.2.2.2.2.2.2.2.2.2.2.2.2.2.2)
     have HP := fun w' x0 x1 x2 x3 x4 h => HSq.out (Zz w' wr.heap.size x0 x1 x2 x3 x4) (Qn (HSB'.out w' h) (Q9 _))
     unfold Zz at HP
     have HP' := Qq HP
     clear HS HP c0 c1 d0 d1 d2 d3 d4 d5 d6 d7 d8 d9 d10 d11 d12
     have HRow := Qq (fun W' (h' : Below wr.heap.size wr W') => (rrow_any S0 (fun b => w.heap.size ≤ b) _ S3 s [.slice up s.sums.length uc, .slice (some ⟨tb, toff, none⟩) n tc] (.slice (some ⟨lb, loff, none⟩) n capc) l t [.string ⟨t.name.toArray⟩, .slice cp9 t.columns.length cc9, .slice kp9 t.key.length kc9, .slice rp9 t.refs.length rc9, .int .i64 k9, .string s19, .int .i64 n9, .string s29, .slice p19 n19 c19, .slice p29 n29 c29, .slice p39 n39 c39, .int .i64 a9, .int .i64 z9] (.slice np ns.length nc) ns a W' (HSc.out.below (HWc.out.thn h')) ((HSl.out.below h').rel) (Qs.frame HTR.out (.of_below h')) (HNs.out.below (HWc.out.thn h')) HI.out ha9 (HGen.out.gen t HTm.out) HGen.out.sums (fun t ht => (HGen.out.ok t ht).key) (fun r hr v hv => (HGl.out.rows r hr v hv).good)).mono (R' := fun e w2 => ∃ v q3 m3 q4 m4, e = .returned (.agg #[.int .i64 v.kind, .int .i64 v.n, .string ⟨v.s.toArray⟩, .slice q3 v.names.length m3, .slice q4 v.kids.length m4]) ∧ Xo v ∧ Qh (fun b => w.heap.size ≤ b) w2 (vcs v q3 m3 q4 m4) v ∧ Below wr.heap.size wr w2) (by
      rintro e w2 ⟨v, q3, m3, q4, m4, rfl, x1, x2, x3, x4⟩
      have hsz := h'.size
      have hw9 := HWc.out.size
      have hf9 := (HGen.out.gen t HTm.out).few
      exact ⟨v, q3, m3, q4, m4, rfl, ⟨x1, by omega⟩, x3.move (.refl _ _) (fun b _ h => h.elim id (fun h => by show w.heap.size ≤ b; omega)), h'.thn x4⟩))
     have HIns := Qq (fun W' v q3 m3 q4 m4 (h' : Below wr.heap.size wr W') (hv : Qh (fun b => w.heap.size ≤ b) W' (vcs v q3 m3 q4 m4) v) => (Di (fun b => w.heap.size ≤ b) (.slice (some ⟨lb, loff, none⟩) n capc) l t.name v _ W' (HSl.out.below h') hv (by omega) (fun r hr => by have := HGl.out.few r hr; omega)).mono (R' := fun e w2 => ∃ p cap css, e = .returned (.slice p n cap) ∧ Own Zs 57 (fun b => w.heap.size ≤ b) w.heap.size w2 (.slice p n cap) (J0 l t.name v) css ∧ Below wr.heap.size wr w2) (by
      rintro e w2 ⟨p, cap, css, rfl, x1, x2⟩
      have hsz := h'.size
      have hw9 := HWc.out.size
      rw [Jk, hll] at x1 ⊢
      exact ⟨p, cap, css, rfl, x1.weak (by omega) (fun b _ h => h.elim id (fun h => by show w.heap.size ≤ b; omega)), h'.thn x2⟩))
     unfold sv vcs at HIns
     go_cut [10] from 24 to 73 (fun t10 wx => ∃ p cap v css, t10 = .slice p n cap ∧ Xo v ∧ Own Zs 57 (fun b => w.heap.size ≤ b) w.heap.size wx (.slice p n cap) (J0 l t.name v) css ∧ Below wr.heap.size wr wx)
     case first =>
      go_region_held3 ?Lq1 (first | with_reducible exact HS0.out | with_reducible exact hS3 | with_reducible exact hS2)
       (first
        | (go_at_call 23; refine (HIns.out _ _ _ _ _ _ (HSB'.out _ hS2) HV2.out).mono ?_; rintro e w3 ⟨p9, cap9, css9, rfl, hO3, hq3⟩; have hS3 := HSq.out _ hq3; have HO3 := Qq hO3; clear hO3)
        | (go_at_call 36; refine (HRow.out _ (HSB'.out _ (by assumption))).mono ?_; rintro e w2 ⟨v, q3, m3, q4, m4, rfl, hg2, hv2, hq2⟩; have hS2 := HSq.out _ hq2; have HG2 := Qq hg2; have HV2 := Qq hv2; clear hg2 hv2))
      all_goals
       go_wp2_with fail
       go_meet
       exact ⟨p9, cap9, v, css9, rfl, HG2.out, HO3.out, HSB'.out _ hS3⟩
     obtain ⟨p9, cap9, v, css9, rfl, hvo, hO9, hbc⟩ := hcut
     have hg9 : Va s 5 (J0 l t.name v) := HGl.out.ins t.name v hvo (fun i' r' h1 h2 => by
      rw [HGl.out.at_ HGen.out.once HTi.out] at h1
      cases h1
      rw [HR.out] at h2
      cases h2
      rw [HMr.out]; exact hm5)
     have hlen9 : (J0 l t.name v).length = n := by rw [Jk, hll]
     have HG9 := Qq hg9; have HBc9 := Qq (HBc.out.thn hbc); have HWc9 := Qq (HWc.out.thn hbc)
     have HSt9 := Qq (show Uj s 5 w wc (.slice p9 n cap9) n from ⟨_, css9, hg9, hlen9, hO9⟩)
     have hSl9 : Sl Zs (fun b => w.heap.size ≤ b) wc (.slice p9 n cap9) (J0 l t.name v) := by
      have := hO9.sl (S' := (fun b => w.heap.size ≤ b)) (by omega) (fun _ h => h) (fun _ _ h => h)
      exact this
     have HCk9 := Qq (HCk S0 (fun b => w.heap.size ≤ b) s [.slice up s.sums.length uc, .slice (some ⟨tb, toff, none⟩) n tc] (.slice p9 n cap9) (J0 l t.name v) wc (HSc.out.below HWc9.out) hSl9.rel (by rw [hlen9, HN.out]) HGen.out.sums.ok HGen.out.ok hg9.rows)
     have hXc := kE HBc9.out hlt1 HX1.out
     obtain ⟨c0, c1⟩ := row2 hXc
     have HSt0 := Qq (HStc.out.grow hbc)
     clear hvo hO9 hg9 hlen9 hSl9 hXc HRow HIns hbc
     clear HS0 HSr HD' HSB' HA' HP' HSq
     go_upto_region 15 with (go_at_call 66; refine HCk9.out.mono ?_; rintro e w4 ⟨⟨fc, x1, x2, x3, x4, x5, x6, x7, x8, x9, x10, x11, rfl⟩, hb4⟩; have hfd : ∀ W, (Instr.field 94 (.agg #[.int .i64 fc, x1, x2, x3, x4, x5, x6, x7, x8, x9, x10, x11]) 0).run prog W = .ok (.int .i64 fc) W := (fun W => by simp [Instr.field, go_sem, part, asAgg]); have HB4 := Qq hb4; clear hb4)
     focus
      go_wp2_with fail
      go_roundw
      case measure => simp [intOf]; omega
      case rel => exact ⟨k + 1, _, _, by omega, rfl, by go_num, HSt9.out.grow HB4.out, HBc9.out.thn HB4.out⟩
     focus
      exact ⟨⟨k + 1, _, _, by omega, rfl, by go_num, HSt0.out.grow (by have h := HB4.out; exact h), HBc9.out.thn HB4.out⟩, by simp [intOf]; omega⟩
    have g5 : ¬ (mr : Int) < 5 := by omega
    go_wp2_with fail
    go_roundw
    case measure => simp [intOf]; omega
    case rel => exact ⟨i + 1, _, _, by omega, rfl, by go_num, HStc.out, HBc.out⟩
   have hk3 : k = 3 := by omega
   subst hk3
   go_wp2_with fail
   go_roundw
   case measure => simp [intOf]; omega
   case rel => exact ⟨i + 1, _, _, by omega, rfl, by go_num, HStc.out, HBc.out⟩
  have g2 : ¬ (i : Int) < (n : Int) := by omega
  go_wp2_with fail
  go_roundw
  case measure => simp [intOf]; omega
  case rel => exact ⟨ps + 1, _, _, by omega, rfl, by go_num, HStb.out, HBb.out⟩
 have hps3 : ps = 3 := by omega
 subst hps3
 go_wp2_with fail
 go_ret
 obtain ⟨l, css, hg, hl, hO⟩ := HSta.out
 subst hl
 exact ⟨l, pa, capa, css, rfl, hg, hO, HB1.out.thn HBa.out⟩
theorem Lo (nm : Bs) (n : Int) (s : Bs) (names binds : List Bs) (kids : List Ex) (a z : Int) (d : Nat) (HM : ∀ (S : Nat → Prop) (ce : List Value) (nv vv : Value) (ns : List Bs) (vs : List Val) (w : World), Z5 S w ce (.mk 13 nm n s names binds kids a z) → Sl Qp S w nv ns → Sl Ql S w vv vs → ns.length ≤ vs.length → vs.length + (d + 1) ≤ 1000 → (∀ v ∈ vs, Z2 v) →
  Calls prog 180 #[.agg ce.toArray, nv, vv] w (Yf S w)) : ∀ (S : Nat → Prop) (ce : List Value) (nv vv : Value) (ns : List Bs) (vs : List Val) (w : World), Z5 S w ce (.mk 13 nm n s names binds kids a z) → Sl Qp S w nv ns → Sl Ql S w vv vs → ns.length ≤ vs.length → vs.length + (d + 1) ≤ 1000 → (∀ v ∈ vs, Z2 v) →
  Calls prog 140 #[.agg ce.toArray, nv, vv] w (Yf S w) := by
 intro S ce nv vv ns vs w hx0 hn0 hv0 hlen hd hb
 have hx : Z5 (fun b => S b ∧ b < w.heap.size) w ce (.mk 13 nm n s names binds kids a z) := hx0.move (.refl _ _) (fun b hb h => ⟨h, hb⟩)
 have hn := hn0.up
 have hv := hv0.up
 obtain ⟨np, nc, rfl, _⟩ := hn.len
 obtain ⟨vp, vc, rfl, hvl⟩ := hv.len
 have HXX := Qq hx
 obtain ⟨nv', bv, kv, rfl, hnm, hsx, hns, hbi, hk⟩ := Zd.1 hx
 obtain ⟨p1, c1, rfl, _⟩ := hns.len
 obtain ⟨p2, c2, rfl, _⟩ := hbi.len
 obtain ⟨p3, c3, rfl, hkl⟩ := hk.len
 have HN := Qq hn; have HV := Qq hv; have HBo := Qq hb; have HNs := Qq hns; have HBi := Qq hbi; have HK := Qq hk; have HMm := Qq HM; have HLen := Qq hlen
 clear hx0 hn0 hv0 hx hn hv hns hbi hk hb HM hlen
 have HXw := Qq (fun W (hW : Below w.heap.size w W) => HMm.out (fun b => S b ∧ b < w.heap.size) _ _ _ ns vs W (HXX.out.move (.of_below hW) (fun _ _ h => h)) (HN.out.below hW) (HV.out.below hW) HLen.out hd HBo.out)
 unfold sv at *
 go_enter func140, ntmps140
 go_upto_region 26 with fail
 generalize hW1 : (w.alloc _).alloc _ = W1
 have hb1 := eqB hW1 (Zv _ _ _)
 have hX1 := eqH (b := w.heap.size) hW1 (Q5 _ _ _)
 have hZ1 := eqH (b := w.heap.size + 1) hW1 (Q6 _ _ _)
 have HB1 := Qq hb1; have HX1 := Qq hX1; have HZ1 := Qq hZ1
 have hlt := Qf hZ1
 obtain ⟨c0, c1, c2, c3, c4, c5, c6, c7, c8⟩ := row9 hX1
 clear hW1 hb1 hX1 hZ1
 go_wp2_with (go_at_call 180; refine (HXw.out _ HB1.out).mono ?_; rintro e w7 ⟨k7, n7, s7, q37, m37, l37, q47, m47, l47, b7, rfl, hv7, hb7⟩; have hZ7 := kE (hb7) hlt HZ1.out; have f0 := fA 0 hZ7; have y0 := Qk _ _ 0 _ _ _ hZ7; have f1 := fA 1 hZ7; have y1 := Qk _ _ 1 _ _ _ hZ7; have f2 := fA 2 hZ7; have y2 := Qk _ _ 2 _ _ _ hZ7; have f3 := fA 3 hZ7; have y3 := Qk _ _ 3 _ _ _ hZ7; have f4 := fA 4 hZ7; have y4 := Qk _ _ 4 _ _ _ hZ7; simp only [List.getElem?_toArray, List.getElem?_cons_zero, List.getElem?_cons_succ] at y0 y1 y2 y3 y4; have HZ7 := Qq hZ7; clear hZ7; have HV7 := Qq hv7; have HB7 := Qq hb7; clear hv7 hb7)
 show bodyPost _ _ _ _ _ (Zz w7 (w.heap.size + 1) (.int .i64 k7) (.int .i64 n7) (.string s7) (.slice q37 m37 l37) (.slice q47 m47 l47))
 refine Q7 (v := .tuple #[.agg #[.int .i64 k7, .int .i64 n7, .string s7, .slice q37 m37 l37, .slice q47 m47 l47], .bool b7]) (by simp [results, results140, go_sem, Qm HZ7.out]) rfl (V5 HB1.out (by omega) hlt HV7.out HB7.out)
theorem Bv (nm : Bs) (n : Int) (s : Bs) (names binds : List Bs) (kids : List Ex) (a z : Int) (d : Nat) (HM : ∀ (S : Nat → Prop) (ce : List Value) (nv vv : Value) (ns : List Bs) (vs : List Val) (w : World), Z5 S w ce (.mk 14 nm n s names binds kids a z) → Sl Qp S w nv ns → Sl Ql S w vv vs → ns.length ≤ vs.length → vs.length + (d + 1) ≤ 1000 → (∀ v ∈ vs, Z2 v) →
  Calls prog 181 #[.agg ce.toArray, nv, vv] w (Yf S w)) : ∀ (S : Nat → Prop) (ce : List Value) (nv vv : Value) (ns : List Bs) (vs : List Val) (w : World), Z5 S w ce (.mk 14 nm n s names binds kids a z) → Sl Qp S w nv ns → Sl Ql S w vv vs → ns.length ≤ vs.length → vs.length + (d + 1) ≤ 1000 → (∀ v ∈ vs, Z2 v) →
  Calls prog 140 #[.agg ce.toArray, nv, vv] w (Yf S w) := by
 intro S ce nv vv ns vs w hx0 hn0 hv0 hlen hd hb
 have hx : Z5 (fun b => S b ∧ b < w.heap.size) w ce (.mk 14 nm n s names binds kids a z) := hx0.move (.refl _ _) (fun b hb h => ⟨h, hb⟩)
 have hn := hn0.up
 have hv := hv0.up
 obtain ⟨np, nc, rfl, _⟩ := hn.len
 obtain ⟨vp, vc, rfl, hvl⟩ := hv.len
 have HXX := Qq hx
 obtain ⟨nv', bv, kv, rfl, hnm, hsx, hns, hbi, hk⟩ := Zd.1 hx
 obtain ⟨p1, c1, rfl, _⟩ := hns.len
 obtain ⟨p2, c2, rfl, _⟩ := hbi.len
 obtain ⟨p3, c3, rfl, hkl⟩ := hk.len
 have HN := Qq hn; have HV := Qq hv; have HBo := Qq hb; have HNs := Qq hns; have HBi := Qq hbi; have HK := Qq hk; have HMm := Qq HM; have HLen := Qq hlen
 clear hx0 hn0 hv0 hx hn hv hns hbi hk hb HM hlen
 have HXw := Qq (fun W (hW : Below w.heap.size w W) => HMm.out (fun b => S b ∧ b < w.heap.size) _ _ _ ns vs W (HXX.out.move (.of_below hW) (fun _ _ h => h)) (HN.out.below hW) (HV.out.below hW) HLen.out hd HBo.out)
 unfold sv at *
 go_enter func140, ntmps140
 go_upto_region 28 with fail
 generalize hW1 : (w.alloc _).alloc _ = W1
 have hb1 := eqB hW1 (Zv _ _ _)
 have hX1 := eqH (b := w.heap.size) hW1 (Q5 _ _ _)
 have hZ1 := eqH (b := w.heap.size + 1) hW1 (Q6 _ _ _)
 have HB1 := Qq hb1; have HX1 := Qq hX1; have HZ1 := Qq hZ1
 have hlt := Qf hZ1
 obtain ⟨c0, c1, c2, c3, c4, c5, c6, c7, c8⟩ := row9 hX1
 clear hW1 hb1 hX1 hZ1
 go_wp2_with (go_at_call 181; refine (HXw.out _ HB1.out).mono ?_; rintro e w7 ⟨k7, n7, s7, q37, m37, l37, q47, m47, l47, b7, rfl, hv7, hb7⟩; have hZ7 := kE (hb7) hlt HZ1.out; have f0 := fA 0 hZ7; have y0 := Qk _ _ 0 _ _ _ hZ7; have f1 := fA 1 hZ7; have y1 := Qk _ _ 1 _ _ _ hZ7; have f2 := fA 2 hZ7; have y2 := Qk _ _ 2 _ _ _ hZ7; have f3 := fA 3 hZ7; have y3 := Qk _ _ 3 _ _ _ hZ7; have f4 := fA 4 hZ7; have y4 := Qk _ _ 4 _ _ _ hZ7; simp only [List.getElem?_toArray, List.getElem?_cons_zero, List.getElem?_cons_succ] at y0 y1 y2 y3 y4; have HZ7 := Qq hZ7; clear hZ7; have HV7 := Qq hv7; have HB7 := Qq hb7; clear hv7 hb7)
 show bodyPost _ _ _ _ _ (Zz w7 (w.heap.size + 1) (.int .i64 k7) (.int .i64 n7) (.string s7) (.slice q37 m37 l37) (.slice q47 m47 l47))
 refine Q7 (v := .tuple #[.agg #[.int .i64 k7, .int .i64 n7, .string s7, .slice q37 m37 l37, .slice q47 m47 l47], .bool b7]) (by simp [results, results140, go_sem, Qm HZ7.out]) rfl (V5 HB1.out (by omega) hlt HV7.out HB7.out)
theorem Pf (S : Nat → Prop) (v : Value) (l : List Int) (w : World) (hs : Y4 S w v l) (hi : Vw l) (hk : Zo l 0 13 = 6) :
  Calls prog 35 #[v, .int .i64 0] w (V8 w (Gen.check 6)) := by
 have HP := Qq (fun W (hb : Below w.heap.size w W) => Zr S v l 0 13 W (hs.below hb) hi (by omega) (by omega))
 rw [hk] at HP
 obtain ⟨p, cap, rfl, _⟩ := hs.len
 clear hs hi hk
 go_enter func35, ntmps35
 go_upto_region 8 with fail
 generalize hW8 : (((((((w.alloc _).alloc _).alloc _).alloc _).alloc _).alloc _).alloc _).alloc _ = W8
 have hb8 := eqB hW8 (Zq (Zq (Zq (Zq (Zq (Zq (Zq (Qo w _) _) _) _) _) _) _) _)
 have hz8 : W8.heap.size = w.heap.size + 8 := by rw [← hW8]; simp
 have r8 := eqH (b := w.heap.size) hW8 (Qi (Qi (Qi (Qi (Qi (Qi (Qi (Z6 rfl _) _) _) _) _) _) _) _)
 have hS2 := (((Zu.row (show W8.heap[w.heap.size + 1 + 1 + 1 + 1 + 1]? = some (.cells #[.int .i64 3, .string ⟨#[101]⟩, .int .i64 0, .string ⟨#[]⟩, .slice none 0 0, .slice none 0 0, .slice none 0 0, .int .i64 0, .int .i64 0] 35 (0, 0)) from by rw [← hW8]; exact Qi (Qi (Z6 (by simp) _) _) _)).app (Zu.row (show W8.heap[w.heap.size + 1 + 1 + 1 + 1 + 1 + 1 + 1]? = some (.cells #[.int .i64 2, .string ⟨#[]⟩, .int .i64 1, .string ⟨#[]⟩, .slice none 0 0, .slice none 0 0, .slice none 0 0, .int .i64 0, .int .i64 0] 35 (0, 0)) from by rw [← hW8]; exact Z6 (by simp) _))).app (Zu.row (show W8.heap[w.heap.size + 1 + 1]? = some (.cells #[.int .i64 3, .string ⟨#[98]⟩, .int .i64 0, .string ⟨#[]⟩, .slice none 0 0, .slice none 0 0, .slice none 0 0, .int .i64 0, .int .i64 0] 35 (0, 0)) from by rw [← hW8]; exact Qi (Qi (Qi (Qi (Qi (Z6 (by simp) _) _) _) _) _) _)))
 have hG := (Xs (Xs (Y1 (show w.heap.size < w.heap.size + 1 + 1 + 1 + 1 + 1 by omega) (.int .i64 3) (.string ⟨#[101]⟩) (.int .i64 0) (.string ⟨#[]⟩) (.slice none 0 0) (.slice none 0 0) (.slice none 0 0) (.int .i64 0) (.int .i64 0)) (Y1 (show w.heap.size < w.heap.size + 1 + 1 + 1 + 1 + 1 + 1 + 1 by omega) (.int .i64 2) (.string ⟨#[]⟩) (.int .i64 1) (.string ⟨#[]⟩) (.slice none 0 0) (.slice none 0 0) (.slice none 0 0) (.int .i64 0) (.int .i64 0))) (Y1 (show w.heap.size < w.heap.size + 1 + 1 by omega) (.int .i64 3) (.string ⟨#[98]⟩) (.int .i64 0) (.string ⟨#[]⟩) (.slice none 0 0) (.slice none 0 0) (.slice none 0 0) (.int .i64 0) (.int .i64 0)))
 have HB8 := Qq hb8; have HR := Qq r8
 clear hW8 hb8 r8 hz8
 go_upto_region 20 with (go_at_call 26; refine (HP.out _ HB8.out).mono ?_; rintro e w' ⟨rfl, rfl⟩)
 refine let_mvar% ?Lq1 := fun w' : World => w'.cell? ⟨w.heap.size + 1 + 1 + 1 + 1 + 1, 0, none⟩ = some (.int .i64 3) ∧ w'.cell? ⟨w.heap.size + 1 + 1 + 1 + 1 + 1, 1, none⟩ = some (.string ⟨#[101]⟩) ∧ w'.cell? ⟨w.heap.size + 1 + 1 + 1 + 1 + 1, 2, none⟩ = some (.int .i64 0) ∧ w'.cell? ⟨w.heap.size + 1 + 1 + 1 + 1 + 1, 3, none⟩ = some (.string ⟨#[]⟩) ∧ w'.cell? ⟨w.heap.size + 1 + 1 + 1 + 1 + 1, 4, none⟩ = some (.slice none 0 0) ∧ w'.cell? ⟨w.heap.size + 1 + 1 + 1 + 1 + 1, 5, none⟩ = some (.slice none 0 0) ∧ w'.cell? ⟨w.heap.size + 1 + 1 + 1 + 1 + 1, 6, none⟩ = some (.slice none 0 0) ∧ w'.cell? ⟨w.heap.size + 1 + 1 + 1 + 1 + 1, 7, none⟩ = some (.int .i64 0) ∧ w'.cell? ⟨w.heap.size + 1 + 1 + 1 + 1 + 1, 8, none⟩ = some (.int .i64 0) ∧ w'.cell? ⟨w.heap.size + 1 + 1 + 1 + 1 + 1 + 1 + 1, 0, none⟩ = some (.int .i64 2) ∧ w'.cell? ⟨w.heap.size + 1 + 1 + 1 + 1 + 1 + 1 + 1, 1, none⟩ = some (.string ⟨#[]⟩) ∧ w'.cell? ⟨w.heap.size + 1 + 1 + 1 + 1 + 1 + 1 + 1, 2, none⟩ = some (.int .i64 1) ∧ w'.cell? ⟨w.heap.size + 1 + 1 + 1 + 1 + 1 + 1 + 1, 3, none⟩ = some (.string ⟨#[]⟩) ∧ w'.cell? ⟨w.heap.size + 1 + 1 + 1 + 1 + 1 + 1 + 1, 4, none⟩ = some (.slice none 0 0) ∧ w'.cell? ⟨w.heap.size + 1 + 1 + 1 + 1 + 1 + 1 + 1, 5, none⟩ = some (.slice none 0 0) ∧ w'.cell? ⟨w.heap.size + 1 + 1 + 1 + 1 + 1 + 1 + 1, 6, none⟩ = some (.slice none 0 0) ∧ w'.cell? ⟨w.heap.size + 1 + 1 + 1 + 1 + 1 + 1 + 1, 7, none⟩ = some (.int .i64 0) ∧ w'.cell? ⟨w.heap.size + 1 + 1 + 1 + 1 + 1 + 1 + 1, 8, none⟩ = some (.int .i64 0) ∧ w'.cell? ⟨w.heap.size + 1 + 1, 0, none⟩ = some (.int .i64 3) ∧ w'.cell? ⟨w.heap.size + 1 + 1, 1, none⟩ = some (.string ⟨#[98]⟩) ∧ w'.cell? ⟨w.heap.size + 1 + 1, 2, none⟩ = some (.int .i64 0) ∧ w'.cell? ⟨w.heap.size + 1 + 1, 3, none⟩ = some (.string ⟨#[]⟩) ∧ w'.cell? ⟨w.heap.size + 1 + 1, 4, none⟩ = some (.slice none 0 0) ∧ w'.cell? ⟨w.heap.size + 1 + 1, 5, none⟩ = some (.slice none 0 0) ∧ w'.cell? ⟨w.heap.size + 1 + 1, 6, none⟩ = some (.slice none 0 0) ∧ w'.cell? ⟨w.heap.size + 1 + 1, 7, none⟩ = some (.int .i64 0) ∧ w'.cell? ⟨w.heap.size + 1 + 1, 8, none⟩ = some (.int .i64 0); ?_
 have HS := Qq (fun w' (h : Zu (Vl (w.heap.size + 1 + 1 + 1 + 1 + 1) (.int .i64 3) (.string ⟨#[101]⟩) (.int .i64 0) (.string ⟨#[]⟩) (.slice none 0 0) (.slice none 0 0) (.slice none 0 0) (.int .i64 0) (.int .i64 0) ++ Vl (w.heap.size + 1 + 1 + 1 + 1 + 1 + 1 + 1) (.int .i64 2) (.string ⟨#[]⟩) (.int .i64 1) (.string ⟨#[]⟩) (.slice none 0 0) (.slice none 0 0) (.slice none 0 0) (.int .i64 0) (.int .i64 0) ++ Vl (w.heap.size + 1 + 1) (.int .i64 3) (.string ⟨#[98]⟩) (.int .i64 0) (.string ⟨#[]⟩) (.slice none 0 0) (.slice none 0 0) (.slice none 0 0) (.int .i64 0) (.int .i64 0)) w') => (show ?Lq1 w' from Zu.spread h))
 have HG := Qq hG
 have HPt := Qq (fun w' z0 z1 z2 z3 z4 z5 z6 z7 z8 (h : Zu _ w') => HS.out _ (h.put9 HG.out z0 z1 z2 z3 z4 z5 z6 z7 z8))
 unfold put9 at HPt
 have HBc := HB8
 clear hG
 have hTok1 := Qq True.intro; have hTokN := Qq True.intro; have hTokB := Qq True.intro; have hTokK := Qq True.intro; have hTokL := Qq True.intro
 go_region_held3 ?Lq1 (first | with_reducible exact HS.out _ hS2 | with_reducible exact HS.out _ hS2.drew | with_reducible exact HS.out _ (hS2.alloc _) | with_reducible exact HS.out _ (hS2.alloc _).drew | with_reducible exact HS.out _ ((hS2.alloc _).alloc _) | with_reducible exact HS.out _ ((hS2.alloc _).alloc _).drew | with_reducible exact HS.out _ (((hS2.alloc _).alloc _).alloc _) | with_reducible exact HPt.out _ _ _ _ _ _ _ _ _ _ hS2)
  (first
   | (have hn := HX1.out; clear hn; (repeat (first
      | (have hk := hTokN.out; clear hTokN hk; generalize hWN : World.alloc _ (Obj.cells #[.string ⟨#[82, 101, 100]⟩, .string ⟨#[68, 97, 114, 107]⟩] 9 _) = WN; have hbN := Xz hWN; have hkN := Vm hWN; have hlN := Jy hWN HR.out; have hS3 := hS2.later hbN; clear hS2; have hS2 := hS3; clear hS3; have HR0 := Qq (Zi hbN HR.out); clear HR; have HR := HR0; clear HR0; have HC0 := Qq (HBc.out.thn hbN); clear HBc; have HBc := HC0; clear HC0; (try (have h0 := Qq (Zi hbN HKB.out); clear HKB; have HKB := h0; clear h0)); (try (have h0 := Qq (Zi hbN HKK.out); clear HKK; have HKK := h0; clear h0)); (try (have h0 := Qq (HX1.out.move (.of_below hbN) (fun _ _ h => h)); clear HX1; have HX1 := h0; clear h0)); have HKN := Qq hkN; have HLN := Qq hlN; have HZN := Qq (Kd hWN); clear hWN hbN hkN hlN)
      | (have hk := hTokB.out; clear hTokB hk; generalize hWB : World.alloc _ (Obj.cells #[.string ⟨#[]⟩, .string ⟨#[110]⟩] 9 _) = WB; have hbB := Xz hWB; have hkB := Vm hWB; have hlB := Jy hWB HR.out; have hS3 := hS2.later hbB; clear hS2; have hS2 := hS3; clear hS3; have HR0 := Qq (Zi hbB HR.out); clear HR; have HR := HR0; clear HR0; have HC0 := Qq (HBc.out.thn hbB); clear HBc; have HBc := HC0; clear HC0; (try (have h0 := Qq (Zi hbB HKN.out); clear HKN; have HKN := h0; clear h0)); (try (have h0 := Qq (Zi hbB HKK.out); clear HKK; have HKK := h0; clear h0)); (try (have h0 := Qq (HX1.out.move (.of_below hbB) (fun _ _ h => h)); clear HX1; have HX1 := h0; clear h0)); have HKB := Qq hkB; have HLB := Qq hlB; have HZB := Qq (Kd hWB); clear hWB hbB hkB hlB)
      | (have hn := HX1.out; clear hn; have hk := hTokK.out; clear hTokK hk; generalize hWK : World.alloc _ (Obj.cells #[.int .i64 3, .string ⟨#[101]⟩, .int .i64 0, .string ⟨#[]⟩, .slice none 0 0, .slice none 0 0, .slice none 0 0, .int .i64 0, .int .i64 0, .int .i64 2, .string ⟨#[]⟩, .int .i64 1, .string ⟨#[]⟩, .slice none 0 0, .slice none 0 0, .slice none 0 0, .int .i64 0, .int .i64 0, .int .i64 ek1, .string es1, .int .i64 en1, .string et1, .slice e11 f11 g11, .slice e21 f21 g21, .slice e31 f31 g31, .int .i64 ea1, .int .i64 ez1] 35 _) = WK; have hbK := Xz hWK; have hkK := Vm hWK; have hlK := Jy hWK HR.out; have hS3 := hS2.later hbK; clear hS2; have hS2 := hS3; clear hS3; have HR0 := Qq (Zi hbK HR.out); clear HR; have HR := HR0; clear HR0; have HC0 := Qq (HBc.out.thn hbK); clear HBc; have HBc := HC0; clear HC0; (try (have h0 := Qq (Zi hbK HKN.out); clear HKN; have HKN := h0; clear h0)); (try (have h0 := Qq (Zi hbK HKB.out); clear HKB; have HKB := h0; clear h0)); (try (have h0 := Qq (HX1.out.move (.of_below hbK) (fun _ _ h => h)); clear HX1; have HX1 := h0; clear h0)); have HKK := Qq hkK; have HLK := Qq hlK; have HZK := Qq (Kd hWK); clear hWK hbK hkK hlK)
      | fail)); have hn := HKN.out; clear hn; have hn := HKB.out; clear hn; have hn := HKK.out; clear hn; have hk := hTokL.out; clear hTokL hk; obtain ⟨⟨f0, f1, f2, f3, f4, f5, f6, f7, f8⟩, y0, y1, y2, y3, y4, y5, y6, y7, y8⟩ := Rc HR.out; go_simp)
   | (have hk := hTok1.out; go_at_call 70; (repeat (first
      | (have hk := hTokN.out; clear hTokN hk; generalize hWN : World.alloc _ (Obj.cells #[.string ⟨#[82, 101, 100]⟩, .string ⟨#[68, 97, 114, 107]⟩] 9 _) = WN; have hbN := Xz hWN; have hkN := Vm hWN; have hlN := Jy hWN HR.out; have hS3 := hS2.later hbN; clear hS2; have hS2 := hS3; clear hS3; have HR0 := Qq (Zi hbN HR.out); clear HR; have HR := HR0; clear HR0; have HC0 := Qq (HBc.out.thn hbN); clear HBc; have HBc := HC0; clear HC0; (try (have h0 := Qq (Zi hbN HKB.out); clear HKB; have HKB := h0; clear h0)); (try (have h0 := Qq (Zi hbN HKK.out); clear HKK; have HKK := h0; clear h0)); (try (have h0 := Qq (HX1.out.move (.of_below hbN) (fun _ _ h => h)); clear HX1; have HX1 := h0; clear h0)); have HKN := Qq hkN; have HLN := Qq hlN; have HZN := Qq (Kd hWN); clear hWN hbN hkN hlN)
      | (have hk := hTokB.out; clear hTokB hk; generalize hWB : World.alloc _ (Obj.cells #[.string ⟨#[]⟩, .string ⟨#[110]⟩] 9 _) = WB; have hbB := Xz hWB; have hkB := Vm hWB; have hlB := Jy hWB HR.out; have hS3 := hS2.later hbB; clear hS2; have hS2 := hS3; clear hS3; have HR0 := Qq (Zi hbB HR.out); clear HR; have HR := HR0; clear HR0; have HC0 := Qq (HBc.out.thn hbB); clear HBc; have HBc := HC0; clear HC0; (try (have h0 := Qq (Zi hbB HKN.out); clear HKN; have HKN := h0; clear h0)); (try (have h0 := Qq (Zi hbB HKK.out); clear HKK; have HKK := h0; clear h0)); (try (have h0 := Qq (HX1.out.move (.of_below hbB) (fun _ _ h => h)); clear HX1; have HX1 := h0; clear h0)); have HKB := Qq hkB; have HLB := Qq hlB; have HZB := Qq (Kd hWB); clear hWB hbB hkB hlB)
      | fail)); refine (Xj w.heap.size [60] _ _ _ _ _ (by simp) (by exact (Zx 3 [110] 0 [] (by simp) (by simp))) (by exact (Zx 3 [98] 0 [] (by simp) (by simp))) (by exact Qf HR.out)).mono ?_; rintro e W1 ⟨ek1, es1, en1, et1, e11, f11, g11, e21, f21, g21, e31, f31, g31, ea1, ez1, rfl, hx1, hb1⟩; clear hTok1 hk; (try (have hb0 := X5 hb1; clear hb1; have hb1 := hb0; clear hb0)); have hS3 := hS2.later hb1; clear hS2; have hS2 := hS3; clear hS3; have HR0 := Qq (Zi hb1 HR.out); clear HR; have HR := HR0; clear HR0; have HC0 := Qq (HBc.out.thn hb1); clear HBc; have HBc := HC0; clear HC0; (try (have h0 := Qq (Zi hb1 HKN.out); clear HKN; have HKN := h0; clear h0)); (try (have h0 := Qq (Zi hb1 HKB.out); clear HKB; have HKB := h0; clear h0)); (try (have h0 := Qq (Zi hb1 HKK.out); clear HKK; have HKK := h0; clear h0)); have HX1 := Qq hx1; clear hx1 hb1)
   | fail)
 all_goals
  go_wp2_with fail
  show bodyPost _ _ _ _ _ (put9 _ w.heap.size (.int .i64 13) (.string ⟨#[]⟩) (.int .i64 0) (.string ⟨#[]⟩) (.slice (some ⟨_, 0, none⟩) 2 2) (.slice (some ⟨_, 0, none⟩) 2 2) (.slice (some ⟨_, 0, none⟩) 3 3) (.int .i64 0) (.int .i64 0))
  exact Q7 (v := .agg #[.int .i64 13, .string ⟨#[]⟩, .int .i64 0, .string ⟨#[]⟩, .slice (some ⟨_, 0, none⟩) 2 2, .slice (some ⟨_, 0, none⟩) 2 2, .slice (some ⟨_, 0, none⟩) 3 3, .int .i64 0, .int .i64 0]) (by simp [results, results35, go_sem, Y2 HR.out]) rfl (Vq (Zt (nm := []) (s := []) (by simp) (by simp) (Z4 (xs := [[82, 101, 100], [68, 97, 114, 107]]) (N4 HKN.out (by have h1 := HZN.out; have h2 := HZB.out; have h3 := HZK.out; omega)) (by have h0 := HLN.out; have h1 := HZN.out; have h2 := HZB.out; have h3 := HZK.out; show w.heap.size < _; omega) (Gd _ _ [82, 101, 100] [68, 97, 114, 107] (by simp) (by simp)) rfl rfl (by simp)) (Z4 (xs := [[], [110]]) (N4 HKB.out (by have h1 := HZN.out; have h2 := HZB.out; have h3 := HZK.out; omega)) (by have h0 := HLB.out; have h1 := HZN.out; have h2 := HZB.out; have h3 := HZK.out; show w.heap.size < _; omega) (Gd _ _ [] [110] (by simp) (by simp)) rfl rfl (by simp)) (Z4 (xs := [Gen.e, Gen.yes, Gen.op [60] [Gen.var [110], Gen.b]]) (N4 HKK.out (by have h1 := HZN.out; have h2 := HZB.out; have h3 := HZK.out; omega)) (by have h0 := HLK.out; have h1 := HZN.out; have h2 := HZB.out; have h3 := HZK.out; show w.heap.size < _; omega) (((Cs.one (r := Yo) (Zx 3 [101] 0 [] (by simp) (by simp))).app (Cs.one (r := Yo) (Zx 2 [] 1 [] (by simp) (by simp)))).app (Cs.one (r := Yo) HX1.out)) rfl rfl (by simp))) HBc.out rfl)
end Go.Proofs.YtppbaladeefnkaaGreatDoor
