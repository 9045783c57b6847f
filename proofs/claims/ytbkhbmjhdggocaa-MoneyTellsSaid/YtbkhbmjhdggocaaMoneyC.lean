/- Contracts of Times and of the reference's Times. -/
import Derived.Test.YtbkhbmjhdggocaaMoneyB
namespace Go.Proofs.Ytbkhbmjhdggocaa.MoneyA
open Go.RowKit

theorem fits_pos (a n : Int) (h0 : 0 < a) (ha : a ≤ 1000000000000) : withinI n (wrap64 (-Int.tdiv 1000000000000 a)) (1000000000000 / a) = rightI (a * n) := by
  have e1 : Int.tdiv 1000000000000 a = 1000000000000 / a := Int.tdiv_eq_ediv_of_nonneg (by omega)
  have hd : 0 ≤ 1000000000000 / a ∧ 1000000000000 / a ≤ 1000000000000 := ⟨Int.ediv_nonneg (by omega) (by omega), Int.ediv_le_self _ (by omega)⟩
  rw [e1, w64 (by omega) (by omega)]
  have h1 : n ≤ 1000000000000 / a ↔ n * a ≤ 1000000000000 := Int.le_ediv_iff_mul_le h0
  have h2 : -n ≤ 1000000000000 / a ↔ (-n) * a ≤ 1000000000000 := Int.le_ediv_iff_mul_le h0
  have e3 : (-n) * a = -(n * a) := Int.neg_mul n a
  have e4 : a * n = n * a := Int.mul_comm a n
  rw [e3] at h2
  rw [e4]
  unfold withinI rightI
  exact decide_eq_decide.2 (by omega)

theorem fits_neg (a n : Int) (h0 : a < 0) (ha : -1000000000000 ≤ a) : withinI n (wrap64 (Int.tdiv 1000000000000 a)) (wrap64 (-Int.tdiv 1000000000000 a)) = rightI (a * n) := by
  have h := fits_pos (-a) (-n) (by omega) (by omega)
  have e1 : Int.tdiv 1000000000000 (-a) = -Int.tdiv 1000000000000 a := Int.tdiv_neg _ _
  have e2 : Int.tdiv 1000000000000 (-a) = 1000000000000 / (-a) := Int.tdiv_eq_ediv_of_nonneg (by omega)
  have hd : 0 ≤ 1000000000000 / (-a) ∧ 1000000000000 / (-a) ≤ 1000000000000 := ⟨Int.ediv_nonneg (by omega) (by omega), Int.ediv_le_self _ (by omega)⟩
  rw [Int.neg_mul_neg] at h
  rw [← h, e2, w64 (x := Int.tdiv 1000000000000 a) (by omega) (by omega), w64 (x := -Int.tdiv 1000000000000 a) (by omega) (by omega), w64 (by omega) (by omega)]
  unfold withinI
  exact decide_eq_decide.2 (by omega)

theorem times_no (a n : Int) (w : World) (h : ¬ (rightI a = true ∧ rightI n = true)) : Calls Try.prog 23 #[.int .i64 a, .int .i64 n] w fun e w' => e = .returned (.tuple #[.int .i64 0, .int .i64 10]) ∧ ∃ m, w' = w.drewN m := by
  rcases Bool.eq_false_or_eq_true (rightI a) with ha | ha
  · have hn : rightI n = false := by
      rcases Bool.eq_false_or_eq_true (rightI n) with hn | hn
      · exact absurd ⟨ha, hn⟩ h
      · exact hn
    clear h
    go_enter Try.func23, Try.ntmps23
    go_wp2_with (first | (go_at_call 19; refine (right_any _ _).mono ?_; rintro e w' ⟨rfl, rfl⟩) | (go_at_call 29; refine (of_no _ _).mono ?_; rintro e w' ⟨rfl, rfl⟩))
    go_quiet (fail)
    go_wp2_with (first | (go_at_call 29; refine (of_no _ _).mono ?_; rintro e w' ⟨rfl, rfl⟩))
    go_ret2
    exact ⟨rfl, _, rfl⟩
  · clear h
    go_enter Try.func23, Try.ntmps23
    go_wp2_with (first | (go_at_call 19; refine (right_any _ _).mono ?_; rintro e w' ⟨rfl, rfl⟩) | (go_at_call 29; refine (of_no _ _).mono ?_; rintro e w' ⟨rfl, rfl⟩))
    go_quiet (fail)
    go_wp2_with (first | (go_at_call 29; refine (of_no _ _).mono ?_; rintro e w' ⟨rfl, rfl⟩))
    go_ret2
    exact ⟨rfl, _, rfl⟩

theorem times_zero (n : Int) (w : World) (hn : rightI n = true) : Calls Try.prog 23 #[.int .i64 0, .int .i64 n] w fun e w' => e = .returned (.tuple #[.int .i64 0, .int .i64 0]) ∧ ∃ m, w' = w.drewN m := by
  have h0 : rightI 0 = true := by decide
  go_enter Try.func23, Try.ntmps23
  go_wp2_with (first | (go_at_call 19; refine (right_any _ _).mono ?_; rintro e w' ⟨rfl, rfl⟩))
  go_quiet (fail)
  go_wp2_with (first | (go_at_call 29; refine (of_yes _ _).mono ?_; rintro e w' ⟨rfl, rfl⟩))
  go_ret2
  refine ⟨ret2 (r' := (0, 0)) ?_, _, rfl⟩
  unfold tell
  simp [h0]

theorem times_pos (a n : Int) (w : World) (ha : rightI a = true) (hn : rightI n = true) (h0 : 0 < a) : Calls Try.prog 23 #[.int .i64 a, .int .i64 n] w fun e w' => e = .returned (.tuple #[.int .i64 (tell (a * n)).1, .int .i64 (tell (a * n)).2]) ∧ ∃ m, w' = w.drewN m := by
  have hb := rightB ha
  have g1 : (a != 0) = true := by simp; omega
  have g2 : (a == 0) = false := by simp; omega
  have g3 : ¬ a < -a := by omega
  go_enter Try.func23, Try.ntmps23
  go_wp2_with (first | (go_at_call 19; refine (right_any _ _).mono ?_; rintro e w' ⟨rfl, rfl⟩))
  go_quiet ((go_at_call 28; exact Calls.quiet_of_same (within_any _ _ _ _)))
  rw [fits_pos a n h0 hb.2]
  have hr : rightI (a * n) = true → tell (wrap64 (a * n)) = tell (a * n) := fun h => by
    have := rightB h
    rw [w64 (by omega) (by omega)]
  have hf : rightI (a * n) = false → tell (a * n) = (0, 10) := fun h => by unfold tell; rw [h]; rfl
  generalize hq : rightI (a * n) = q at hr hf
  clear hq
  have HR : Hid (q = true → tell (wrap64 (a * n)) = tell (a * n)) := hr
  have HF : Hid (q = false → tell (a * n) = (0, 10)) := hf
  clear hr hf
  cases q
  · go_wp2_with (first | (go_at_call 29; refine (of_no _ _).mono ?_; rintro e w' ⟨rfl, rfl⟩))
    go_ret2
    exact ⟨(ret2 (r := (0, 10)) (HF.out (by trivial)).symm), _, rfl⟩
  · go_wp2_with (first | (go_at_call 29; refine (of_yes _ _).mono ?_; rintro e w' ⟨rfl, rfl⟩))
    go_ret2
    exact ⟨ret2 (HR.out (by trivial)), _, rfl⟩

theorem times_neg (a n : Int) (w : World) (ha : rightI a = true) (hn : rightI n = true) (h0 : a < 0) : Calls Try.prog 23 #[.int .i64 a, .int .i64 n] w fun e w' => e = .returned (.tuple #[.int .i64 (tell (a * n)).1, .int .i64 (tell (a * n)).2]) ∧ ∃ m, w' = w.drewN m := by
  have hb := rightB ha
  have g1 : (a != 0) = true := by simp; omega
  have g2 : (a == 0) = false := by simp; omega
  have g3 : a < -a := by omega
  go_enter Try.func23, Try.ntmps23
  go_wp2_with (first | (go_at_call 19; refine (right_any _ _).mono ?_; rintro e w' ⟨rfl, rfl⟩))
  go_quiet ((go_at_call 28; exact Calls.quiet_of_same (within_any _ _ _ _)))
  rw [fits_neg a n h0 hb.1]
  have hr : rightI (a * n) = true → tell (wrap64 (a * n)) = tell (a * n) := fun h => by
    have := rightB h
    rw [w64 (by omega) (by omega)]
  have hf : rightI (a * n) = false → tell (a * n) = (0, 10) := fun h => by unfold tell; rw [h]; rfl
  generalize hq : rightI (a * n) = q at hr hf
  clear hq
  have HR : Hid (q = true → tell (wrap64 (a * n)) = tell (a * n)) := hr
  have HF : Hid (q = false → tell (a * n) = (0, 10)) := hf
  clear hr hf
  cases q
  · go_wp2_with (first | (go_at_call 29; refine (of_no _ _).mono ?_; rintro e w' ⟨rfl, rfl⟩))
    go_ret2
    exact ⟨(ret2 (r := (0, 10)) (HF.out (by trivial)).symm), _, rfl⟩
  · go_wp2_with (first | (go_at_call 29; refine (of_yes _ _).mono ?_; rintro e w' ⟨rfl, rfl⟩))
    go_ret2
    exact ⟨ret2 (HR.out (by trivial)), _, rfl⟩

theorem times_any (a n : Int) (w : World) : Calls Try.prog 23 #[.int .i64 a, .int .i64 n] w fun e w' => e = .returned (.tuple #[.int .i64 (both a n (tell (a * n))).1, .int .i64 (both a n (tell (a * n))).2]) ∧ ∃ m, w' = w.drewN m := by
  by_cases h : rightI a = true ∧ rightI n = true
  · rw [both_yes h.1 h.2]
    rcases Int.lt_trichotomy a 0 with k | k | k
    · exact times_neg a n w h.1 h.2 k
    · subst k
      have e : tell (0 * n) = (0, 0) := by rw [Int.zero_mul]; rfl
      rw [e]
      exact times_zero n w h.2
    · exact times_pos a n w h.1 h.2 k
  · rw [show both a n (tell (a * n)) = (0, 10) from if_neg h]
    exact times_no a n w h

/-! The reference's Times: it calls itself, with one sign less. -/
theorem refTimes_no (a n : Int) (w : World) (h : ¬ (rightI a = true ∧ rightI n = true)) : Calls Try.prog 24 #[.int .i64 a, .int .i64 n] w fun e w' => e = .returned (.tuple #[.int .i64 0, .int .i64 10]) ∧ ∃ m, w' = w.drewN m := by
  rcases Bool.eq_false_or_eq_true (rightI a) with ha | ha
  · have hn : rightI n = false := by
      rcases Bool.eq_false_or_eq_true (rightI n) with hn | hn
      · exact absurd ⟨ha, hn⟩ h
      · exact hn
    clear h
    go_enter Try.func24, Try.ntmps24
    go_wp2_with (first | (go_at_call 20; refine (refRight_any _ _).mono ?_; rintro e w' ⟨rfl, rfl⟩))
    go_ret2
    exact ⟨rfl, 0, rfl⟩
  · clear h
    go_enter Try.func24, Try.ntmps24
    go_wp2_with (first | (go_at_call 20; refine (refRight_any _ _).mono ?_; rintro e w' ⟨rfl, rfl⟩))
    go_ret2
    exact ⟨rfl, 0, rfl⟩
theorem refTimes_pp (a n : Int) (w : World) (ha : rightI a = true) (hn : rightI n = true) (h0 : 0 < a) (h1 : 0 ≤ n) : Calls Try.prog 24 #[.int .i64 a, .int .i64 n] w fun e w' => e = .returned (.tuple #[.int .i64 (tell (a * n)).1, .int .i64 (tell (a * n)).2]) ∧ ∃ m, w' = w.drewN m := by
  have hb := rightB ha
  have hd : 0 ≤ 1000000000000 / a ∧ 1000000000000 / a ≤ 1000000000000 := ⟨Int.ediv_nonneg (by omega) (by omega), Int.ediv_le_self _ (by omega)⟩
  have hk : n ≤ 1000000000000 / a ↔ n * a ≤ 1000000000000 := Int.le_ediv_iff_mul_le h0
  have hp : 0 ≤ a * n := Int.mul_nonneg (by omega) h1
  rw [Int.mul_comm n a] at hk
  by_cases hc : 1000000000000 / a < n
  · have e : tell (a * n) = (0, 10) := by
      unfold tell
      rw [if_neg (fun k => by have := rightB k; omega)]
    rw [e]
    clear e hk hp hd
    have g1 : (a == 0) = false := by simp; omega
    go_enter Try.func24, Try.ntmps24
    go_wp2_with (first | (go_at_call 20; refine (refRight_any _ _).mono ?_; rintro e w' ⟨rfl, rfl⟩))
    go_ret2
    exact ⟨rfl, 0, rfl⟩
  · have e : tell (a * n) = (a * n, 0) := by
      unfold tell
      rw [if_pos (show rightI (a * n) = true from decide_eq_true (by omega))]
    rw [e]
    have hw : Hid (wrap64 (a * n) = a * n) := w64 (by omega) (by omega)
    clear e hk hp hd
    have g1 : (a == 0) = false := by simp; omega
    go_enter Try.func24, Try.ntmps24
    go_wp2_with (first | (go_at_call 20; refine (refRight_any _ _).mono ?_; rintro e w' ⟨rfl, rfl⟩))
    go_ret2
    exact ⟨ret2 (r := (wrap64 (a * n), 0)) (r' := (a * n, 0)) (by rw [hw.out]), 0, rfl⟩
theorem refTimes_zp (n : Int) (w : World) (hn : rightI n = true) (h1 : 0 ≤ n) : Calls Try.prog 24 #[.int .i64 0, .int .i64 n] w fun e w' => e = .returned (.tuple #[.int .i64 0, .int .i64 0]) ∧ ∃ m, w' = w.drewN m := by
  have h0 : rightI 0 = true := by decide
  go_enter Try.func24, Try.ntmps24
  go_wp2_with (first | (go_at_call 20; refine (refRight_any _ _).mono ?_; rintro e w' ⟨rfl, rfl⟩))
  go_ret2
  exact ⟨rfl, 0, rfl⟩
theorem refTimes_nn (a n : Int) (w : World) (ha : rightI a = true) (hn : rightI n = true) (h0 : 0 ≤ a) (h1 : 0 ≤ n) : Calls Try.prog 24 #[.int .i64 a, .int .i64 n] w fun e w' => e = .returned (.tuple #[.int .i64 (tell (a * n)).1, .int .i64 (tell (a * n)).2]) ∧ ∃ m, w' = w.drewN m := by
  rcases Int.lt_or_le 0 a with k | k
  · exact refTimes_pp a n w ha hn k h1
  · obtain rfl : a = 0 := by omega
    rw [show tell (0 * n) = (0, 0) by rw [Int.zero_mul]; rfl]
    exact refTimes_zp n w hn h1
theorem tell_neg {p : Int} : ((wrap64 (-(tell p).1), (tell p).2) : Int × Int) = tell (-p) := by
  unfold tell
  by_cases h : rightI p = true
  · have hb := rightB h
    rw [if_pos h, if_pos (show rightI (-p) = true from decide_eq_true (by omega)), w64 (by dsimp only; omega) (by dsimp only; omega)]
  · rw [if_neg h, if_neg (fun k => h (by have := rightB k; exact decide_eq_true (by omega)))]; simp [wrap64]
theorem right_neg {a : Int} (h : rightI a = true) : rightI (-a) = true := by
  have := rightB h
  exact decide_eq_true (by omega)
theorem refTimes_pn (a n : Int) (w : World) (ha : rightI a = true) (hn : rightI n = true) (h0 : 0 ≤ a) (h1 : n < 0) : Calls Try.prog 24 #[.int .i64 a, .int .i64 n] w fun e w' => e = .returned (.tuple #[.int .i64 (tell (a * n)).1, .int .i64 (tell (a * n)).2]) ∧ ∃ m, w' = w.drewN m := by
  have hb := rightB ha
  have hb' := rightB hn
  have hr := right_neg hn
  have hc := fun W => refTimes_nn a (-n) W ha hr h0 (by omega)
  have E : Hid (tell (a * n) = tell (-(a * -n))) := by show _ = _; rw [Int.mul_neg, Int.neg_neg]
  have HC : Hid (∀ W, Calls Try.prog 24 #[.int .i64 a, .int .i64 (-n)] W fun e w' => e = .returned (.tuple #[.int .i64 (tell (a * -n)).1, .int .i64 (tell (a * -n)).2]) ∧ ∃ m, w' = W.drewN m) := hc
  clear hc
  generalize tell (a * n) = r at E
  generalize hq : a * -n = q at HC E
  clear hq
  go_enter Try.func24, Try.ntmps24
  go_wp2_with (first | (go_at_call 20; refine (refRight_any _ _).mono ?_; rintro e w' ⟨rfl, rfl⟩) | (go_at_call 24; refine (HC.out _).mono ?_; rintro e w' ⟨rfl, m, rfl⟩))
  go_ret2
  exact ⟨ret2 (r := (wrap64 (-(tell q).1), (tell q).2)) (by rw [tell_neg, E.out]), _, rfl⟩
theorem refTimes_n (a n : Int) (w : World) (ha : rightI a = true) (hn : rightI n = true) (h0 : a < 0) : Calls Try.prog 24 #[.int .i64 a, .int .i64 n] w fun e w' => e = .returned (.tuple #[.int .i64 (tell (a * n)).1, .int .i64 (tell (a * n)).2]) ∧ ∃ m, w' = w.drewN m := by
  have hb := rightB ha
  have hb' := rightB hn
  have hr := right_neg ha
  have hc : ∀ W, Calls Try.prog 24 #[.int .i64 (-a), .int .i64 n] W fun e w' => e = .returned (.tuple #[.int .i64 (tell (-a * n)).1, .int .i64 (tell (-a * n)).2]) ∧ ∃ m, w' = W.drewN m := fun W => by
    rcases Int.lt_or_le n 0 with k | k
    · exact refTimes_pn (-a) n W hr hn (by omega) k
    · exact refTimes_nn (-a) n W hr hn (by omega) k
  have E : Hid (tell (a * n) = tell (-(-a * n))) := by show _ = _; rw [Int.neg_mul, Int.neg_neg]
  have HC : Hid (∀ W, Calls Try.prog 24 #[.int .i64 (-a), .int .i64 n] W fun e w' => e = .returned (.tuple #[.int .i64 (tell (-a * n)).1, .int .i64 (tell (-a * n)).2]) ∧ ∃ m, w' = W.drewN m) := hc
  clear hc
  generalize tell (a * n) = r at E
  generalize hq : -a * n = q at HC E
  clear hq
  go_enter Try.func24, Try.ntmps24
  go_wp2_with (first | (go_at_call 20; refine (refRight_any _ _).mono ?_; rintro e w' ⟨rfl, rfl⟩) | (go_at_call 24; refine (HC.out _).mono ?_; rintro e w' ⟨rfl, m, rfl⟩))
  go_ret2
  exact ⟨ret2 (r := (wrap64 (-(tell q).1), (tell q).2)) (by rw [tell_neg, E.out]), _, rfl⟩
theorem refTimes_any (a n : Int) (w : World) : Calls Try.prog 24 #[.int .i64 a, .int .i64 n] w fun e w' => e = .returned (.tuple #[.int .i64 (both a n (tell (a * n))).1, .int .i64 (both a n (tell (a * n))).2]) ∧ ∃ m, w' = w.drewN m := by
  by_cases h : rightI a = true ∧ rightI n = true
  · rw [both_yes h.1 h.2]
    rcases Int.lt_or_le a 0 with k | k
    · exact refTimes_n a n w h.1 h.2 k
    · rcases Int.lt_or_le n 0 with j | j
      · exact refTimes_pn a n w h.1 h.2 k j
      · exact refTimes_nn a n w h.1 h.2 k j
  · rw [show both a n (tell (a * n)) = (0, 10) from if_neg h]
    exact refTimes_no a n w h

theorem k1 (W : World) : Calls Try.prog 13 #[.int .i64 999, .int .i64 250, .bool false] W fun e w' => e = .returned (.tuple #[.int .i64 24, .int .i64 0]) ∧ w' = W := part_in 999 250 false W (by decide) (by omega) (by omega)
theorem k2 (W : World) : Calls Try.prog 13 #[.int .i64 999, .int .i64 250, .bool true] W fun e w' => e = .returned (.tuple #[.int .i64 25, .int .i64 0]) ∧ w' = W := part_in 999 250 true W (by decide) (by omega) (by omega)
theorem k3 (W : World) : Calls Try.prog 13 #[.int .i64 (-999), .int .i64 250, .bool false] W fun e w' => e = .returned (.tuple #[.int .i64 (-25), .int .i64 0]) ∧ w' = W := part_in (-999) 250 false W (by decide) (by omega) (by omega)
theorem k4 (W : World) : Calls Try.prog 17 #[.int .i64 1000000000000, .int .i64 1] W fun e w' => e = .returned (.tuple #[.int .i64 0, .int .i64 10]) ∧ w' = W := add_any 1000000000000 1 W
theorem k5 (W : World) : Calls Try.prog 14 #[.int .i64 5, .int .i64 7, .int .i64 9] W fun e w' => e = .returned (.int .i64 7) ∧ w' = W := clamp_any 5 7 9 W
theorem k6 (W : World) : Calls Try.prog 14 #[.int .i64 5, .int .i64 9, .int .i64 7] W fun e w' => e = .returned (.int .i64 9) ∧ w' = W := clamp_any 5 9 7 W
theorem k7 (W : World) : Calls Try.prog 15 #[.int .i64 5, .int .i64 (-3)] W fun e w' => e = .returned (.int .i64 5) ∧ w' = W := later_any 5 (-3) W
theorem k8 (W : World) : Calls Try.prog 15 #[.int .i64 1099511627776, .int .i64 1] W fun e w' => e = .returned (.int .i64 1099511627776) ∧ w' = W := later_any 1099511627776 1 W
theorem awake_any (w : World) : Calls Try.prog 11 #[] w fun e w' => e = .returned (.bool true) ∧ w' = w := by
  go_enter Try.func11, Try.ntmps11
  go_wp2_with fail
  refine (k1 _).mono ?_
  rintro e w' ⟨rfl, rfl⟩
  go_wp2_with fail
  refine (k2 _).mono ?_
  rintro e w' ⟨rfl, rfl⟩
  go_wp2_with fail
  refine (k3 _).mono ?_
  rintro e w' ⟨rfl, rfl⟩
  go_wp2_with fail
  refine (k4 _).mono ?_
  rintro e w' ⟨rfl, rfl⟩
  go_wp2_with fail
  refine (k5 _).mono ?_
  rintro e w' ⟨rfl, rfl⟩
  go_wp2_with fail
  refine (k6 _).mono ?_
  rintro e w' ⟨rfl, rfl⟩
  go_wp2_with fail
  refine (k7 _).mono ?_
  rintro e w' ⟨rfl, rfl⟩
  go_wp2_with fail
  refine (k8 _).mono ?_
  rintro e w' ⟨rfl, rfl⟩
  go_wp2_with fail
  go_ret
  exact ⟨rfl, rfl⟩
end Go.Proofs.Ytbkhbmjhdggocaa.MoneyA
