/- Contracts of the reference's Intend and Send; Same and Due. -/
import Derived.Test.YtgeocadpdpjmjaaOutF
namespace Go.Proofs.Ytgeocadpdpjmjaa.Out
open Go.RowKit Go.Proofs.Ytgeocadpdpjmjaa.Mem

theorem rintend_any (A : Option Addr) (c k n : Nat) (xs : List Outs) (hn : xs.length = n) (x : Outs) (pr now : Int) (w : World) (h : dO.At w A c xs) (hb : n * 40 ≤ 140737488355328) (hx : xs[k]? = some x) (h1 : 1 ≤ pr) (h2 : pr ≤ 1000000000000) (h3 : 0 ≤ x.v) (h4 : x.v ≤ 1000000) :
    Calls Try.prog 18 #[.slice A n c, .int .i64 k, .int .i64 pr, .int .i64 now] w (IsE w (xs.set k (intendO x pr now)) n 0) := by
  have H := Lib.hid h
  have hkn : k < n := by rw [← hn]; exact (List.getElem?_eq_some_iff.1 hx).1
  have hle : n ≤ c := by rw [← hn]; exact h.le
  have hmax := h.max
  have h0k : (0 : Int) ≤ (k : Int) := by omega
  obtain ⟨bA, oA, rfl, hbA, c0, c1, c2, c3, c4⟩ := at_getO h k x hx
  have HO := Lib.hid (fun W hW => own_any (some ⟨bA, oA, none⟩) c n xs hn W hW hb)
  have HT := Lib.hid (fun W => there_in (some ⟨bA, oA, none⟩) c n k W hkn hle hmax)
  have HX := Lib.hid hx
  clear h hn hx
  obtain ⟨v, p, t, nx, s⟩ := x
  have h3' : 0 ≤ v := h3
  have h4' : v ≤ 1000000 := h4
  clear h3 h4
  have hwr : IntKind.i64.wrap (v + 1) = v + 1 := IntWalk.i64_in _ (by omega)
  have HL := Lib.hid (fun W => rlater0 now W)
  show Calls _ _ _ _ (IsE w (xs.set k ⟨v + 1, pr, 0, tickI now, 1⟩) n 0)
  generalize tickI now = u at HL
  have g1 : decide (pr < 1) = false := decide_eq_false (by omega)
  have g2 : decide (1000000000000 < pr) = false := decide_eq_false (by omega)
  go_enter Try.func18, Try.ntmps18
  go_wp2_with (first
      | (go_at_call 36; refine (HO.out _ H.out).mono ?_; rintro e w1 ⟨A1, c1', rfl, hown, hbel⟩; obtain ⟨hc1, hf1, hz1⟩ := olds hbel; obtain ⟨g, rfl, hge, hlt, r0, r1, r2, r3, r4⟩ := own_getO hown k _ HX.out; have f0 := hown.free (k * 5); have f1 := hown.free (k * 5 + 1); have f2 := hown.free (k * 5 + 2); have f3 := hown.free (k * 5 + 3); have f4 := hown.free (k * 5 + 4); have HW := Lib.hid hown; have HB := Lib.hid hbel; clear hown hbel)
      | (go_at_call 37; refine (HT.out _).mono ?_; rintro e w' ⟨rfl, rfl⟩))
  refine wp_region_still_tail 13 (by kernel_rfl) (by kernel_rfl) ?_
  simp only [List.take_succ_cons, List.take_zero, List.drop_succ_cons, List.drop_zero]
  change wpStill Try.prog _ w1.drew _ _ _
  have d0 : w1.drew.cell? ⟨bA, oA + k * 5, none⟩ = some (.int .i64 v) := below_cell HB.out c0
  iterate 10 still_step
  still_call ((HL.out _).mono fun _ _ h => ⟨h.1, h.2.symm⟩)
  still_step
  still_step
  refine wpStill_nil ?_
  change wpList Try.prog _ _ _ _ w1.drew
  clear hwr
  go_wp2_with fail
  go_ret2
  refine ⟨some ⟨g, 0, none⟩, c1', rfl, ?_, ?_⟩
  · exact (own_setO HW.out k (List.getElem?_eq_some_iff.1 HX.out).1 ⟨v + 1, pr, 0, u, 1⟩).drewN 1
  · exact below_drewN (below_setO HB.out hge k ⟨v + 1, pr, 0, u, 1⟩) 1

theorem set2 (xs : List Outs) (k : Nat) (x y : Outs) : (xs.set k x).set k y = xs.set k y := List.set_set ..
theorem rsend_not (A : Option Addr) (c k n : Nat) (xs : List Outs) (hn : xs.length = n) (x : Outs) (now : Int) (w : World) (h : dO.At w A c xs) (hb : n * 40 ≤ 140737488355328) (hx : xs[k]? = some x) (hd : dueB x now = false) :
    Calls Try.prog 19 #[.slice A n c, .int .i64 k, .int .i64 now] w (IsS w xs n ⟨0, 0, 0⟩ false 1) := by
  have H := Lib.hid h
  have hkn : k < n := by rw [← hn]; exact (List.getElem?_eq_some_iff.1 hx).1
  have hle : n ≤ c := by rw [← hn]; exact h.le
  have hmax := h.max
  have h0k : (0 : Int) ≤ (k : Int) := by omega
  obtain ⟨bA, oA, rfl, hbA, c0, c1, c2, c3, c4⟩ := at_getO h k x hx
  have HO := Lib.hid (fun W hW => own_any (some ⟨bA, oA, none⟩) c n xs hn W hW hb)
  have HT := Lib.hid (fun W => there_in (some ⟨bA, oA, none⟩) c n k W hkn hle hmax)
  have HX := Lib.hid hx
  clear h hn hx
  obtain ⟨v, p, t, nx, s⟩ := x
  have hd' := of_decide_eq_false hd
  have hd2 : ¬ (s = 1 ∧ nx ≤ tickI now) := hd'
  clear hd hd'
  have HL := Lib.hid (fun W => rlater0 now W)
  generalize tickI now = u at hd2 HL
  by_cases h1 : s = 1
  · subst h1
    have g1 : decide (u < nx) = true := decide_eq_true (by have : ¬ nx ≤ u := fun e => hd2 ⟨rfl, e⟩; omega)
    clear hd2
    go_enter Try.func19, Try.ntmps19
    go_wp2_with (first
      | (go_at_call 36; refine (HO.out _ (H.out.below (below_alloc (Below.refl _ _) _))).mono ?_; rintro e w1 ⟨A1, c1', rfl, hown, hbel⟩; obtain ⟨hc1, hf1, hz1⟩ := olds hbel; have HW := Lib.hid hown; have HB := Lib.hid hbel; clear hown hbel)
      | (go_at_call 37; refine (HT.out _).mono ?_; rintro e w' ⟨rfl, rfl⟩)
      | (go_at_call 38; refine (HL.out _).mono ?_; rintro e w' ⟨rfl, rfl⟩))
    refine bodyPost_ret (v := .tuple #[.slice A1 n c1', .agg #[.int .i64 0, .int .i64 0, .int .i64 0], .bool false, .int .i64 1]) (by simp [results, Try.results19, go_sem, hc1]) rfl ⟨A1, c1', rfl, ?_, ?_⟩
    · exact (((HW.out.far (by simp) _).far (by simp) _).far (by simp) _).lower (by simp)
    · exact below_set (below_set (below_set (below_step (below_alloc (Below.refl _ _) _) HB.out) (by simp) _) (by simp) _) (by simp) _
  · have g1 : (s != 1) = true := by simpa using h1
    clear hd2 h1
    go_enter Try.func19, Try.ntmps19
    go_wp2_with (first
      | (go_at_call 36; refine (HO.out _ (H.out.below (below_alloc (Below.refl _ _) _))).mono ?_; rintro e w1 ⟨A1, c1', rfl, hown, hbel⟩; obtain ⟨hc1, hf1, hz1⟩ := olds hbel; have HW := Lib.hid hown; have HB := Lib.hid hbel; clear hown hbel)
      | (go_at_call 37; refine (HT.out _).mono ?_; rintro e w' ⟨rfl, rfl⟩)
      | (go_at_call 38; refine (HL.out _).mono ?_; rintro e w' ⟨rfl, rfl⟩))
    refine bodyPost_ret (v := .tuple #[.slice A1 n c1', .agg #[.int .i64 0, .int .i64 0, .int .i64 0], .bool false, .int .i64 1]) (by simp [results, Try.results19, go_sem, hc1]) rfl ⟨A1, c1', rfl, ?_, ?_⟩
    · exact (((HW.out.far (by simp) _).far (by simp) _).far (by simp) _).lower (by simp)
    · exact below_set (below_set (below_set (below_step (below_alloc (Below.refl _ _) _) HB.out) (by simp) _) (by simp) _) (by simp) _
theorem rsend_dead (A : Option Addr) (c k n : Nat) (xs : List Outs) (hn : xs.length = n) (x : Outs) (now : Int) (w : World) (h : dO.At w A c xs) (hb : n * 40 ≤ 140737488355328) (hx : xs[k]? = some x) (hd : dueB x now = true) (ht : 5 ≤ x.t) :
    Calls Try.prog 19 #[.slice A n c, .int .i64 k, .int .i64 now] w (IsS w (xs.set k (stateO x 3)) n ⟨0, 0, 0⟩ false 0) := by
  have H := Lib.hid h
  have hkn : k < n := by rw [← hn]; exact (List.getElem?_eq_some_iff.1 hx).1
  have hle : n ≤ c := by rw [← hn]; exact h.le
  have hmax := h.max
  have h0k : (0 : Int) ≤ (k : Int) := by omega
  obtain ⟨bA, oA, rfl, hbA, c0, c1, c2, c3, c4⟩ := at_getO h k x hx
  have HO := Lib.hid (fun W hW => own_any (some ⟨bA, oA, none⟩) c n xs hn W hW hb)
  have HT := Lib.hid (fun W => there_in (some ⟨bA, oA, none⟩) c n k W hkn hle hmax)
  have HX := Lib.hid hx
  clear h hn hx
  obtain ⟨v, p, t, nx, s⟩ := x
  have hd' := of_decide_eq_true hd
  obtain ⟨hd1, hd2⟩ := hd'
  obtain rfl : s = 1 := hd1
  have ht' : 5 ≤ t := ht
  clear hd ht
  have hd3 : nx ≤ tickI now := hd2
  clear hd2
  have HL := Lib.hid (fun W => rlater0 now W)
  generalize tickI now = u at hd3 HL
  have g1 : decide (u < nx) = false := decide_eq_false (by omega)
  show Calls _ _ _ _ (IsS w (xs.set k ⟨v, p, t, nx, 3⟩) n ⟨0, 0, 0⟩ false 0)
  go_enter Try.func19, Try.ntmps19
  go_wp2_with (first
      | (go_at_call 36; refine (HO.out _ (H.out.below (below_alloc (Below.refl _ _) _))).mono ?_; rintro e w1 ⟨A1, c1', rfl, hown, hbel⟩; obtain ⟨hc1, hf1, hz1⟩ := olds hbel; obtain ⟨g, rfl, hge, hlt, r0, r1, r2, r3, r4⟩ := own_getO hown k _ HX.out; have f0 := hown.free (k * 5); have f1 := hown.free (k * 5 + 1); have f2 := hown.free (k * 5 + 2); have f3 := hown.free (k * 5 + 3); have f4 := hown.free (k * 5 + 4); have hne : g ≠ w.heap.size := (by simp at hge; omega); have hne2 : w.heap.size ≠ g := (by simp at hge; omega); have hneA : bA ≠ g := (by simp at hge; omega); have hneB : g ≠ bA := (by simp at hge; omega); have HW := Lib.hid hown; have HB := Lib.hid hbel; clear hown hbel)
      | (go_at_call 37; refine (HT.out _).mono ?_; rintro e w' ⟨rfl, rfl⟩)
      | (go_at_call 38; refine (HL.out _).mono ?_; rintro e w' ⟨rfl, rfl⟩))
  refine bodyPost_ret (v := .tuple #[.slice (some ⟨g, 0, none⟩) n c1', .agg #[.int .i64 0, .int .i64 0, .int .i64 0], .bool false, .int .i64 0]) (by simp [results, Try.results19, go_sem, hc1]) rfl ⟨some ⟨g, 0, none⟩, c1', rfl, ?_, ?_⟩
  · exact ((((own_setf HW.out k _ ⟨v, p, t, nx, 3⟩ HX.out 4 (by omega) (.int .i64 3) rfl).far (by simp) _).far (by simp) _).far (by simp) _).lower (by simp)
  · exact below_set (below_set (below_set (below_set (below_step (below_alloc (Below.refl _ _) _) HB.out) (by simp at hge; show _ ≤ g; omega) _) (by simp) _) (by simp) _) (by simp) _
theorem wait_pow (t0 : Nat) (ht : t0 ≤ 4) : ((2 ^ (t0 + 1) : Nat) : Int) = waitI t0 := by
  have hc : t0 = 0 ∨ t0 = 1 ∨ t0 = 2 ∨ t0 = 3 ∨ t0 = 4 := by omega
  rcases hc with rfl | rfl | rfl | rfl | rfl <;> rfl
theorem pow_bd (q : Nat) (hq : q ≤ 4) : 1 ≤ ((2 ^ q : Nat) : Int) ∧ ((2 ^ q : Nat) : Int) ≤ 16 := by
  have hc : q = 0 ∨ q = 1 ∨ q = 2 ∨ q = 3 ∨ q = 4 := by omega
  rcases hc with rfl | rfl | rfl | rfl | rfl <;> exact ⟨by decide, by decide⟩
theorem pow_bd' (q : Nat) (hq : q ≤ 5) : 1 ≤ ((2 ^ q : Nat) : Int) ∧ ((2 ^ q : Nat) : Int) ≤ 32 := by
  have hc : q = 0 ∨ q = 1 ∨ q = 2 ∨ q = 3 ∨ q = 4 ∨ q = 5 := by omega
  rcases hc with rfl | rfl | rfl | rfl | rfl | rfl <;> exact ⟨by decide, by decide⟩
set_option maxHeartbeats 1000000 in
theorem rsend_live (A : Option Addr) (c k n : Nat) (xs : List Outs) (hn : xs.length = n) (x : Outs) (now : Int) (w : World) (h : dO.At w A c xs) (hb : n * 40 ≤ 140737488355328) (hx : xs[k]? = some x) (hd : dueB x now = true) (t0 : Nat) (ht : x.t = t0) (h4 : t0 ≤ 4) :
    Calls Try.prog 19 #[.slice A n c, .int .i64 k, .int .i64 now] w (IsS w (xs.set k ⟨x.v, x.p, t0 + 1, laterI (tickI now) (waitI t0), x.s⟩) n ⟨k, x.v, x.p⟩ true 0) := by
  have H := Lib.hid h
  have hkn : k < n := by rw [← hn]; exact (List.getElem?_eq_some_iff.1 hx).1
  have hle : n ≤ c := by rw [← hn]; exact h.le
  have hmax := h.max
  have h0k : (0 : Int) ≤ (k : Int) := by omega
  obtain ⟨bA, oA, rfl, hbA, c0, c1, c2, c3, c4⟩ := at_getO h k x hx
  have HO := Lib.hid (fun W hW => own_any (some ⟨bA, oA, none⟩) c n xs hn W hW hb)
  have HT := Lib.hid (fun W => there_in (some ⟨bA, oA, none⟩) c n k W hkn hle hmax)
  have HX := Lib.hid hx
  clear h hn hx
  obtain ⟨v, p, t, nx, s⟩ := x
  have hd' := of_decide_eq_true hd
  obtain ⟨hd1, hd2⟩ := hd'
  obtain rfl : s = 1 := hd1
  obtain rfl : t = t0 := ht
  clear hd
  have hd3 : nx ≤ tickI now := hd2
  clear hd2
  have HL := Lib.hid (fun W => rlater0 now W)
  generalize tickI now = u at hd3 HL
  have HL2 := Lib.hid (fun W => rlater_any u (waitI t0) W)
  generalize laterI u (waitI t0) = q2 at HL2
  have g1 : decide (u < nx) = false := decide_eq_false (by omega)
  have g5 : decide (5 ≤ t0) = false := decide_eq_false (by omega)
  show Calls _ _ _ _ (IsS w (xs.set k ⟨v, p, t0 + 1, q2, 1⟩) n ⟨k, v, p⟩ true 0)
  go_enter Try.func19, Try.ntmps19
  go_wp2_with (first
      | (go_at_call 36; refine (HO.out _ (H.out.below (below_alloc (Below.refl _ _) _))).mono ?_; rintro e w1 ⟨A1, c1', rfl, hown, hbel⟩; obtain ⟨hc1, hf1, hz1⟩ := olds hbel; obtain ⟨g, rfl, hge, hlt, r0, r1, r2, r3, r4⟩ := own_getO hown k _ HX.out; have f0 := hown.free (k * 5); have f1 := hown.free (k * 5 + 1); have f2 := hown.free (k * 5 + 2); have f3 := hown.free (k * 5 + 3); have f4 := hown.free (k * 5 + 4); have hne : g ≠ w.heap.size := (by simp at hge; omega); have hne2 : w.heap.size ≠ g := (by simp at hge; omega); have hneA : bA ≠ g := (by simp at hge; omega); have hneB : g ≠ bA := (by simp at hge; omega); have HW := Lib.hid hown; have HB := Lib.hid hbel; clear hown hbel)
      | (go_at_call 37; refine (HT.out _).mono ?_; rintro e w' ⟨rfl, rfl⟩)
      | (go_at_call 38; refine (HL.out _).mono ?_; rintro e w' ⟨rfl, rfl⟩))
  go_loop [12, 13] (fun wt i => ∃ (q : Nat) (P : Int), q ≤ t0 + 1 ∧ i = .int .i64 q ∧ wt = .int .i64 P ∧ Hid (P = ((2 ^ q : Nat) : Int)) ∧ 1 ≤ P ∧ P ≤ 32) (fun _ i => t0 + 1 - (intOf i).toNat)
  case atStart => exact ⟨0, 1, by omega, rfl, rfl, rfl, by omega, by omega⟩
  case round =>
    obtain ⟨q, P, hq, rfl, rfl, HP, hp1, hp32⟩ := hrel
    by_cases hlt : q < t0 + 1
    · have hp16 : P ≤ 16 := by rw [HP.out]; exact (pow_bd q (by omega)).2
      go_wp2
      go_round
      case rel => exact ⟨q + 1, P * 2, by omega, by go_num, rfl, Lib.hid (by rw [HP.out, Nat.pow_succ]; omega), by omega, by omega⟩
      case measure => simp [intOf]; omega
    · obtain rfl : q = t0 + 1 := by omega
      have HP2 := Lib.hid (HP.out.trans (wait_pow t0 (by omega)))
      rw [← HP2.out] at HL2
      go_wp2_with (go_at_call 38; refine (HL2.out _).mono ?_; rintro e w' ⟨rfl, rfl⟩)
      have d0 : w1.cell? ⟨bA, oA + k * 5, none⟩ = some (.int .i64 v) := (hc1 bA _ (by simp; omega)).trans (by go_simp)
      have d1 : w1.cell? ⟨bA, oA + k * 5 + 1, none⟩ = some (.int .i64 p) := (hc1 bA _ (by simp; omega)).trans (by go_simp)
      go_region
      go_wp2
      refine bodyPost_ret (v := .tuple #[.slice (some ⟨g, 0, none⟩) n c1', .agg #[.int .i64 k, .int .i64 v, .int .i64 p], .bool true, .int .i64 0]) (by simp [results, Try.results19, go_sem, hc1]) rfl ⟨some ⟨g, 0, none⟩, c1', rfl, ?_, ?_⟩
      · have hk1 : k < xs.length := (List.getElem?_eq_some_iff.1 HX.out).1
        have z1 := own_setf HW.out k _ ⟨v, p, t0 + 1, nx, 1⟩ HX.out 2 (by omega) (.int .i64 (t0 + 1)) rfl
        have z2 := own_setf z1 k _ ⟨v, p, t0 + 1, q2, 1⟩ (List.getElem?_set_self hk1) 3 (by omega) (.int .i64 q2) rfl
        rw [List.set_set] at z2
        exact (((z2.far (by simp) _).far (by simp) _).far (by simp) _).drewN 1 |>.lower (by simp)
      · have hgw : w.heap.size ≤ g := by simp at hge; omega
        exact below_drewN (below_set (below_set (below_set (below_set (below_set (below_step (below_alloc (Below.refl _ _) _) HB.out) hgw _) hgw _) (by simp) _) (by simp) _) (by simp) _) 1
theorem rsend_any (A : Option Addr) (c k n : Nat) (xs : List Outs) (hn : xs.length = n) (x : Outs) (now : Int) (w : World) (h : dO.At w A c xs) (hb : n * 40 ≤ 140737488355328) (hx : xs[k]? = some x) (ht : 0 ≤ x.t) :
    Calls Try.prog 19 #[.slice A n c, .int .i64 k, .int .i64 now] w (IsS w (xs.set k (sendX x now)) n (sendM k x now) (sendIs x now) (sendE x now)) := by
  unfold sendM sendE sendIs sendX
  cases hd : dueB x now
  · have q := rsend_not A c k n xs hn x now w h hb hx hd
    simp only [Bool.false_and, Bool.false_eq_true, if_false]
    rw [set_same hx]
    exact q
  · by_cases h5 : 5 ≤ x.t
    · have q := rsend_dead A c k n xs hn x now w h hb hx hd h5
      rw [decide_eq_false (by omega)]
      simp only [Bool.and_false, Bool.false_eq_true, if_false, if_true]
      unfold sendO
      rw [if_pos h5]
      exact q
    · obtain ⟨t0, e⟩ : ∃ t0 : Nat, x.t = t0 := ⟨x.t.toNat, by omega⟩
      have q := rsend_live A c k n xs hn x now w h hb hx hd t0 e (by omega)
      rw [decide_eq_true (by omega)]
      simp only [Bool.and_self, if_true]
      unfold sendO
      rw [if_neg h5, e]
      exact q

/-! Same. -/
theorem take_snoc {α : Type} (xs : List α) (k : Nat) (x : α) (hx : xs[k]? = some x) : xs.take (k + 1) = xs.take k ++ [x] := by
  rw [List.take_add_one, hx]; rfl
theorem take_more {α : Type} {xs ys : List α} {k : Nat} {x : α} (h : xs.take k = ys.take k) (hx : xs[k]? = some x) (hy : ys[k]? = some x) : xs.take (k + 1) = ys.take (k + 1) := by
  rw [take_snoc xs k x hx, take_snoc ys k x hy, h]
theorem eqA35 (w : World) (a b c d e a' b' c' d' e' : Int) : (Op.equalIn 10000 35 (.agg #[.int .i64 a, .int .i64 b, .int .i64 c, .int .i64 d, .int .i64 e]) (.agg #[.int .i64 a', .int .i64 b', .int .i64 c', .int .i64 d', .int .i64 e'])).run Try.prog w = .ok (decide (a = a' ∧ b = b' ∧ c = c' ∧ d = d' ∧ e = e')) w := by
  have hS : Try.prog.underlying 35 = some (.struct (Try.prog.fieldsOf 35)) := by kernel_rfl
  have hp : Try.prog.stoodInHeld 35 = false := by kernel_rfl
  rw [show (10000 : Nat) = 9999 + 1 from rfl, run_equalIn_agg w 9999 35 _ _ hS hp]
  simp only [Program.fieldsOf, Try.underlying35]
  go_simp
  by_cases h1 : a = a' <;> by_cases h2 : b = b' <;> by_cases h3 : c = c' <;> by_cases h4 : d = d' <;> by_cases h5 : e = e' <;> simp [h1, h2, h3, h4, h5]
theorem eqA30 (w : World) (a b c a' b' c' : Int) : (Op.equalIn 10000 30 (.agg #[.int .i64 a, .int .i64 b, .int .i64 c]) (.agg #[.int .i64 a', .int .i64 b', .int .i64 c'])).run Try.prog w = .ok (decide (a = a' ∧ b = b' ∧ c = c')) w := by
  have hS : Try.prog.underlying 30 = some (.struct (Try.prog.fieldsOf 30)) := by kernel_rfl
  have hp : Try.prog.stoodInHeld 30 = false := by kernel_rfl
  rw [show (10000 : Nat) = 9999 + 1 from rfl, run_equalIn_agg w 9999 30 _ _ hS hp]
  simp only [Program.fieldsOf, Try.underlying30]
  go_simp
  by_cases h1 : a = a' <;> by_cases h2 : b = b' <;> by_cases h3 : c = c' <;> simp [h1, h2, h3]
theorem outs_ne {x y : Outs} (h : x ≠ y) : decide (x.v = y.v ∧ x.p = y.p ∧ x.t = y.t ∧ x.n = y.n ∧ x.s = y.s) = false := decide_eq_false fun ⟨h1, h2, h3, h4, h5⟩ => h (by cases x; cases y; simp_all)
theorem same_any (A B : Option Addr) (c k : Nat) (xs ys : List Outs) (w : World) (hx : dO.At w A c xs) (hy : dO.At w B k ys) :
    Calls Try.prog 17 #[.slice A xs.length c, .slice B ys.length k] w fun e w' => e = .returned (.bool (decide (xs = ys))) ∧ ∃ m, w' = w.drewN m := by
  have HX := Lib.hid hx
  have HY := Lib.hid hy
  have l1 := hx.le
  have l2 := hx.max
  have l3 := hy.le
  have l4 := hy.max
  clear hx hy
  by_cases hl : xs.length = ys.length
  · have g1 : ((xs.length : Int) != (ys.length : Int)) = false := by simp [hl]
    go_enter Try.func17, Try.ntmps17
    go_wp2
    go_loopw [5] (fun kk wr => ∃ (k m : Nat), k ≤ xs.length ∧ kk = .int .i64 k ∧ wr = w.drewN m ∧ Hid (xs.take k = ys.take k)) (fun kk _ => xs.length - (intOf kk).toNat)
    case atStart => exact ⟨0, 0, Nat.zero_le _, rfl, rfl, rfl⟩
    case round =>
      obtain ⟨k, m, hk, rfl, rfl, HE⟩ := hrel
      by_cases hlt : k < xs.length
      · have hx : xs[k]? = some xs[k] := List.getElem?_eq_getElem hlt
        have hy : ys[k]? = some (ys[k]'(by omega)) := List.getElem?_eq_getElem (by omega)
        obtain ⟨b, off, rfl, hb, c0, c1, c2, c3, c4⟩ := at_getO HX.out k _ hx
        obtain ⟨b', off', rfl, hb', d0, d1, d2, d3, d4⟩ := at_getO HY.out k _ hy
        generalize xs[k] = x at c0 c1 c2 c3 c4 hx
        generalize ys[k]'(by omega) = y at d0 d1 d2 d3 d4 hy
        have hk2 : k < ys.length := by omega
        have HXk := Lib.hid hx
        have HYk := Lib.hid hy
        clear hx hy
        have HL := Lib.hid hl
        clear hl
        by_cases e : x = y
        · subst e
          go_wp2_with fail
          go_quiet (fail)
          go_wp2
          go_roundw
          case rel => exact ⟨k + 1, m + nq, by omega, by go_num, by go_simp, take_more HE HXk.out HYk.out⟩
          case measure => simp [intOf]; omega
        · have hq : ∀ W, (Op.equalIn 10000 35 (.agg #[.int .i64 x.v, .int .i64 x.p, .int .i64 x.t, .int .i64 x.n, .int .i64 x.s]) (.agg #[.int .i64 y.v, .int .i64 y.p, .int .i64 y.t, .int .i64 y.n, .int .i64 y.s])).run Try.prog W = .ok false W := fun W => by rw [eqA35, outs_ne e]
          go_wp2_with fail
          go_quiet (fail)
          go_wp2
          go_ret
          refine ⟨?_, _, World.drewN_drewN _ _ _⟩
          rw [decide_eq_false (fun h => e (Option.some.inj (by rw [← HXk.out, ← HYk.out, h])))]; rfl
      · have hkl : k = xs.length := by omega
        subst hkl
        have e : xs = ys := by
          have h1 : xs.take xs.length = ys.take xs.length := HE
          rwa [List.take_length, hl, List.take_length] at h1
        go_wp2
        go_ret
        exact ⟨by rw [decide_eq_true e]; rfl, _, rfl⟩
  · have g1 : ((xs.length : Int) != (ys.length : Int)) = true := by simp; omega
    rw [decide_eq_false (fun e => hl (by rw [e]))]
    go_enter Try.func17, Try.ntmps17
    go_wp2
    go_ret
    exact ⟨rfl, 0, rfl⟩
end Go.Proofs.Ytgeocadpdpjmjaa.Out
