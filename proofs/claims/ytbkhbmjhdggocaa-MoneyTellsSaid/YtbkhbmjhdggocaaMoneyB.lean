/- Contracts of Part, Clamp, Later, pick and Amount, at all whole numbers. -/
import Derived.Test.YtbkhbmjhdggocaaMoneyA
namespace Go.Proofs.Ytbkhbmjhdggocaa.MoneyA
open Go.RowKit

theorem w64 {x : Int} (h : -9223372036854775808 ≤ x) (h' : x ≤ 9223372036854775807) : wrap64 x = x := by unfold wrap64; omega
theorem mul_in {a b A B : Int} (ha : -A ≤ a) (ha' : a ≤ A) (hb : -B ≤ b) (hb' : b ≤ B) : -(A * B) ≤ a * b ∧ a * b ≤ A * B := by
  have h : (a * b).natAbs ≤ (A * B).natAbs := by
    rw [Int.natAbs_mul, Int.natAbs_mul]
    exact Nat.mul_le_mul (by omega) (by omega)
  have h0 : 0 ≤ A * B := Int.mul_nonneg (by omega) (by omega)
  omega
theorem tmod_p (p : Int) : (0 ≤ p → Int.tmod p 10000 = p % 10000) ∧ (p < 0 → Int.tmod p 10000 = -((-p) % 10000)) := by
  refine ⟨fun h => Int.tmod_eq_emod_of_nonneg h, fun h => ?_⟩
  have e : Int.tmod (-(-p)) 10000 = -Int.tmod (-p) 10000 := Int.neg_tmod _ _
  rw [Int.neg_neg, Int.tmod_eq_emod_of_nonneg (a := -p) (by omega)] at e
  exact e
theorem tdiv_p (p : Int) : (0 ≤ p → Int.tdiv p 10000 = p / 10000) ∧ (p < 0 → Int.tdiv p 10000 = -((-p) / 10000)) := by
  refine ⟨fun h => Int.tdiv_eq_ediv_of_nonneg h, fun h => ?_⟩
  have e : Int.tdiv (-(-p)) 10000 = -Int.tdiv (-p) 10000 := Int.neg_tdiv _ _
  rw [Int.neg_neg, Int.tdiv_eq_ediv_of_nonneg (a := -p) (by omega)] at e
  exact e

def partI (p : Int) (up : Bool) : Int × Int := tell (p / 10000 + if up = true ∧ 0 < p % 10000 then 1 else 0)
theorem rest_plain {p : Int} (h : -100000000000000000 ≤ p) (h' : p ≤ 100000000000000000) : (wrap64 ((wrap64 p).tmod 10000 + 10000)).tmod 10000 = p % 10000 := by
  rw [w64 (x := p) (by omega) (by omega)]
  have m1 := tmod_p p
  rw [w64 (x := p.tmod 10000 + 10000) (by omega) (by omega)]
  have m2 := tmod_p (Int.tmod p 10000 + 10000)
  omega
theorem quo_plain {p : Int} (h : -100000000000000000 ≤ p) (h' : p ≤ 100000000000000000) : wrap64 ((wrap64 (wrap64 p - (wrap64 ((wrap64 p).tmod 10000 + 10000)).tmod 10000)).tdiv 10000) = p / 10000 := by
  rw [rest_plain h h', w64 (x := p) (by omega) (by omega), w64 (x := p - p % 10000) (by omega) (by omega)]
  have m3 := tdiv_p (p - p % 10000)
  have e5 : Int.tdiv (p - p % 10000) 10000 = p / 10000 := by omega
  rw [e5, w64 (by omega) (by omega)]
theorem part_down {p : Int} (h : -100000000000000000 ≤ p) (h' : p ≤ 100000000000000000) : tell (wrap64 ((wrap64 (wrap64 p - (wrap64 ((wrap64 p).tmod 10000 + 10000)).tmod 10000)).tdiv 10000)) = partI p false := by
  rw [quo_plain h h']; simp [partI]
theorem part_up0 {p : Int} (h : -100000000000000000 ≤ p) (h' : p ≤ 100000000000000000) (hr : (wrap64 ((wrap64 p).tmod 10000 + 10000)).tmod 10000 ≤ 0) : tell (wrap64 ((wrap64 (wrap64 p - (wrap64 ((wrap64 p).tmod 10000 + 10000)).tmod 10000)).tdiv 10000)) = partI p true := by
  rw [quo_plain h h']
  rw [rest_plain h h'] at hr
  unfold partI
  rw [if_neg (by omega), Int.add_zero]
theorem part_up1 {p : Int} (h : -100000000000000000 ≤ p) (h' : p ≤ 100000000000000000) (hr : 0 < (wrap64 ((wrap64 p).tmod 10000 + 10000)).tmod 10000) : tell (wrap64 (wrap64 ((wrap64 (wrap64 p - (wrap64 ((wrap64 p).tmod 10000 + 10000)).tmod 10000)).tdiv 10000) + 1)) = partI p true := by
  rw [quo_plain h h']
  rw [rest_plain h h'] at hr
  unfold partI
  rw [if_pos ⟨rfl, hr⟩, w64 (by omega) (by omega)]
theorem ref_neg {p : Int} (h : -100000000000000000 ≤ p) (h' : p ≤ 100000000000000000) (hr : (wrap64 p).tmod 10000 < 0) : tell (wrap64 (wrap64 ((wrap64 p).tdiv 10000) - 1)) = partI p false ∧ tell (wrap64 ((wrap64 p).tdiv 10000)) = partI p true := by
  rw [w64 (x := p) (by omega) (by omega)] at hr ⊢
  have m1 := tmod_p p
  have m2 := tdiv_p p
  rw [w64 (x := p.tdiv 10000) (by omega) (by omega), w64 (by omega) (by omega)]
  unfold partI
  refine ⟨?_, ?_⟩ <;> congr 1 <;> split <;> rename_i k <;> first | omega | (simp at k; omega) | (rcases k with ⟨k, _⟩; cases k)
theorem ref_pos {p : Int} (h : -100000000000000000 ≤ p) (h' : p ≤ 100000000000000000) (hr : 0 < (wrap64 p).tmod 10000) : tell (wrap64 ((wrap64 p).tdiv 10000)) = partI p false ∧ tell (wrap64 (wrap64 ((wrap64 p).tdiv 10000) + 1)) = partI p true := by
  rw [w64 (x := p) (by omega) (by omega)] at hr ⊢
  have m1 := tmod_p p
  have m2 := tdiv_p p
  rw [w64 (x := p.tdiv 10000) (by omega) (by omega), w64 (by omega) (by omega)]
  unfold partI
  refine ⟨?_, ?_⟩ <;> congr 1 <;> split <;> rename_i k <;> first | omega | (simp at k; omega) | (rcases k with ⟨k, _⟩; cases k)
theorem ref_zero {p : Int} (up : Bool) (h : -100000000000000000 ≤ p) (h' : p ≤ 100000000000000000) (h0 : 0 ≤ (wrap64 p).tmod 10000) (hr : (wrap64 p).tmod 10000 ≤ 0) : tell (wrap64 ((wrap64 p).tdiv 10000)) = partI p up := by
  rw [w64 (x := p) (by omega) (by omega)] at hr h0 ⊢
  have m1 := tmod_p p
  have m2 := tdiv_p p
  rw [w64 (x := p.tdiv 10000) (by omega) (by omega)]
  unfold partI
  congr 1
  rw [if_neg (by omega)]
  omega
theorem ret2 {r r' : Int × Int} (h : r = r') : Ending.returned (.tuple #[.int .i64 r.1, .int .i64 r.2]) = Ending.returned (.tuple #[.int .i64 r'.1, .int .i64 r'.2]) := by rw [h]
theorem ret1 {r r' : Int} (h : r = r') : Ending.returned (.int .i64 r) = Ending.returned (.int .i64 r') := by rw [h]

theorem part_in (a b : Int) (up : Bool) (w : World) (ha : rightI a = true) (hb : -100000 ≤ b) (hb' : b ≤ 100000) :
   Calls Try.prog 13 #[.int .i64 a, .int .i64 b, .bool up] w fun e w' => e = .returned (.tuple #[.int .i64 (partI (a * b) up).1, .int .i64 (partI (a * b) up).2]) ∧ w' = w := by
  have hW : withinI b (-100000) 100000 = true := decide_eq_true ⟨hb, hb'⟩
  have hm := mul_in (A := 1000000000000) (B := 100000) (rightB ha).1 (rightB ha).2 hb hb'
  have h1 : Hid (-100000000000000000 ≤ a * b) := by show _ ≤ _; omega
  have h2 : Hid (a * b ≤ 100000000000000000) := by show _ ≤ _; omega
  clear hm
  cases up
  · go_enter Try.func13, Try.ntmps13
    go_wp2_with (first | (go_at_call 19; refine (right_any _ _).mono ?_; rintro e w' ⟨rfl, rfl⟩) | (go_at_call 28; refine (within_any _ _ _ _).mono ?_; rintro e w' ⟨rfl, rfl⟩) | (go_at_call 29; refine (of_yes _ _).mono ?_; rintro e w' ⟨rfl, rfl⟩))
    go_ret2
    exact ⟨ret2 (part_down h1.out h2.out), rfl⟩
  · go_enter Try.func13, Try.ntmps13
    go_wp2_with (first | (go_at_call 19; refine (right_any _ _).mono ?_; rintro e w' ⟨rfl, rfl⟩) | (go_at_call 28; refine (within_any _ _ _ _).mono ?_; rintro e w' ⟨rfl, rfl⟩) | (go_at_call 29; refine (of_yes _ _).mono ?_; rintro e w' ⟨rfl, rfl⟩))
    all_goals go_ret2
    · exact ⟨ret2 (part_up1 h1.out h2.out (by assumption)), rfl⟩
    · exact ⟨ret2 (part_up0 h1.out h2.out (by assumption)), rfl⟩

/-- Part, where the amount or the part is not right. -/
theorem part_out (a b : Int) (up : Bool) (w : World) (h : ¬ (rightI a = true ∧ -100000 ≤ b ∧ b ≤ 100000)) :
   Calls Try.prog 13 #[.int .i64 a, .int .i64 b, .bool up] w fun e w' => e = .returned (.tuple #[.int .i64 0, .int .i64 10]) ∧ w' = w := by
  rcases Bool.eq_false_or_eq_true (rightI a) with ha | ha
  · have hW : withinI b (-100000) 100000 = false := decide_eq_false fun k => h ⟨ha, k.1, k.2⟩
    clear h
    go_enter Try.func13, Try.ntmps13
    go_wp2_with (first | (go_at_call 19; refine (right_any _ _).mono ?_; rintro e w' ⟨rfl, rfl⟩) | (go_at_call 28; refine (within_any _ _ _ _).mono ?_; rintro e w' ⟨rfl, rfl⟩))
    go_ret2
    exact ⟨rfl, rfl⟩
  · clear h
    go_enter Try.func13, Try.ntmps13
    go_wp2_with (first | (go_at_call 19; refine (right_any _ _).mono ?_; rintro e w' ⟨rfl, rfl⟩))
    go_ret2
    exact ⟨rfl, rfl⟩

theorem refPart_out (a b : Int) (up : Bool) (w : World) (h : ¬ (rightI a = true ∧ -100000 ≤ b ∧ b ≤ 100000)) :
   Calls Try.prog 25 #[.int .i64 a, .int .i64 b, .bool up] w fun e w' => e = .returned (.tuple #[.int .i64 0, .int .i64 10]) ∧ w' = w := by
  rcases Bool.eq_false_or_eq_true (rightI a) with ha | ha
  · by_cases hb : b < -100000
    · clear h
      go_enter Try.func25, Try.ntmps25
      go_wp2_with (first | (go_at_call 20; refine (refRight_any _ _).mono ?_; rintro e w' ⟨rfl, rfl⟩))
      go_ret2
      exact ⟨rfl, rfl⟩
    · have hb' : 100000 < b := by
        rcases Int.lt_or_le 100000 b with k | k
        · exact k
        · exact absurd ⟨ha, by omega, k⟩ h
      clear h
      go_enter Try.func25, Try.ntmps25
      go_wp2_with (first | (go_at_call 20; refine (refRight_any _ _).mono ?_; rintro e w' ⟨rfl, rfl⟩))
      go_ret2
      exact ⟨rfl, rfl⟩
  · clear h
    go_enter Try.func25, Try.ntmps25
    go_wp2_with (first | (go_at_call 20; refine (refRight_any _ _).mono ?_; rintro e w' ⟨rfl, rfl⟩))
    go_ret2
    exact ⟨rfl, rfl⟩

theorem refPart_in (a b : Int) (up : Bool) (w : World) (ha : rightI a = true) (hb : -100000 ≤ b) (hb' : b ≤ 100000) :
   Calls Try.prog 25 #[.int .i64 a, .int .i64 b, .bool up] w fun e w' => e = .returned (.tuple #[.int .i64 (partI (a * b) up).1, .int .i64 (partI (a * b) up).2]) ∧ w' = w := by
  have hm := mul_in (A := 1000000000000) (B := 100000) (rightB ha).1 (rightB ha).2 hb hb'
  have h1 : Hid (-100000000000000000 ≤ a * b) := by show _ ≤ _; omega
  have h2 : Hid (a * b ≤ 100000000000000000) := by show _ ≤ _; omega
  clear hm
  cases up
  · go_enter Try.func25, Try.ntmps25
    go_wp2_with (first | (go_at_call 20; refine (refRight_any _ _).mono ?_; rintro e w' ⟨rfl, rfl⟩) | (go_at_call 30; refine (told_any _ _).mono ?_; rintro e w' ⟨rfl, rfl⟩))
    all_goals go_ret2
    · exact ⟨ret2 (ref_neg h1.out h2.out (by assumption)).1, rfl⟩
    · exact ⟨ret2 (ref_pos h1.out h2.out (by assumption)).1, rfl⟩
    · exact ⟨ret2 (ref_zero false h1.out h2.out (by assumption) (by assumption)), rfl⟩
  · go_enter Try.func25, Try.ntmps25
    go_wp2_with (first | (go_at_call 20; refine (refRight_any _ _).mono ?_; rintro e w' ⟨rfl, rfl⟩) | (go_at_call 30; refine (told_any _ _).mono ?_; rintro e w' ⟨rfl, rfl⟩))
    all_goals go_ret2
    · exact ⟨ret2 (ref_neg h1.out h2.out (by assumption)).2, rfl⟩
    · exact ⟨ret2 (ref_pos h1.out h2.out (by assumption)).2, rfl⟩
    · exact ⟨ret2 (ref_zero true h1.out h2.out (by assumption) (by assumption)), rfl⟩

/-! Clamp, Later, tick, pick, Amount -/
def clampI (a low high : Int) : Int := if (if high < a then high else a) < low then low else (if high < a then high else a)
theorem clamp_any (a b c : Int) (w : World) : Calls Try.prog 14 #[.int .i64 a, .int .i64 b, .int .i64 c] w fun e w' => e = .returned (.int .i64 (clampI a b c)) ∧ w' = w := by
  go_enter Try.func14, Try.ntmps14
  go_wp2
  all_goals go_ret
  all_goals refine ⟨ret1 ?_, rfl⟩
  all_goals show _ = clampI a b c
  all_goals unfold clampI
  all_goals rename_i k1
  all_goals revert k1
  all_goals (repeat' split) <;> intros <;> omega
theorem refClamp_any (a b c : Int) (w : World) : Calls Try.prog 26 #[.int .i64 a, .int .i64 b, .int .i64 c] w fun e w' => e = .returned (.int .i64 (clampI a b c)) ∧ w' = w := by
  by_cases h : c < a
  · by_cases h' : c < b
    · rw [show clampI a b c = b by unfold clampI; rw [if_pos h, if_pos h']]
      go_enter Try.func26, Try.ntmps26
      go_wp2
      go_ret
      exact ⟨rfl, rfl⟩
    · rw [show clampI a b c = c by unfold clampI; rw [if_pos h, if_neg h']]
      go_enter Try.func26, Try.ntmps26
      go_wp2
      go_ret
      exact ⟨rfl, rfl⟩
  · by_cases h' : a < b
    · rw [show clampI a b c = b by unfold clampI; rw [if_neg h, if_pos h']]
      go_enter Try.func26, Try.ntmps26
      go_wp2
      go_ret
      exact ⟨rfl, rfl⟩
    · rw [show clampI a b c = a by unfold clampI; rw [if_neg h, if_neg h']]
      go_enter Try.func26, Try.ntmps26
      go_wp2
      go_ret
      exact ⟨rfl, rfl⟩
theorem tick_any (a : Int) (w : World) : Calls Try.prog 31 #[.int .i64 a] w fun e w' => e = .returned (.int .i64 (clampI a 0 1099511627776)) ∧ w' = w := by
  by_cases h : a < 0
  · rw [show clampI a 0 1099511627776 = 0 by unfold clampI; rw [if_neg (show ¬ (1099511627776 < a) by omega), if_pos h]]
    go_enter Try.func31, Try.ntmps31
    go_wp2
    go_ret
    exact ⟨rfl, rfl⟩
  · by_cases h' : 1099511627776 < a
    · rw [show clampI a 0 1099511627776 = 1099511627776 by unfold clampI; rw [if_pos h', if_neg (by omega)]]
      go_enter Try.func31, Try.ntmps31
      go_wp2
      go_ret
      exact ⟨rfl, rfl⟩
    · rw [show clampI a 0 1099511627776 = a by unfold clampI; rw [if_neg h', if_neg h]]
      go_enter Try.func31, Try.ntmps31
      go_wp2
      go_ret
      exact ⟨rfl, rfl⟩
theorem clamp_bd (a : Int) : 0 ≤ clampI a 0 1099511627776 ∧ clampI a 0 1099511627776 ≤ 1099511627776 := by unfold clampI; (repeat' split) <;> omega
def laterI (t b : Int) : Int := if 1099511627776 < clampI t 0 1099511627776 + clampI b 0 1099511627776 then 1099511627776 else clampI t 0 1099511627776 + clampI b 0 1099511627776
theorem later_any (a b : Int) (w : World) : Calls Try.prog 15 #[.int .i64 a, .int .i64 b] w fun e w' => e = .returned (.int .i64 (laterI a b)) ∧ w' = w := by
  have ha := clamp_bd a
  have hb := clamp_bd b
  go_enter Try.func15, Try.ntmps15
  go_wp2_with (first | (go_at_call 14; refine (clamp_any _ _ _ _).mono ?_; rintro e w' ⟨rfl, rfl⟩))
  all_goals go_ret
  all_goals refine ⟨ret1 ?_, rfl⟩
  all_goals show _ = laterI a b
  all_goals unfold laterI
  · rw [if_pos (by assumption)]
  · rw [if_neg (by omega)]
theorem refLater_any (a b : Int) (w : World) : Calls Try.prog 27 #[.int .i64 a, .int .i64 b] w fun e w' => e = .returned (.int .i64 (laterI a b)) ∧ w' = w := by
  have ha := clamp_bd a
  have hb := clamp_bd b
  go_enter Try.func27, Try.ntmps27
  go_wp2_with (first | (go_at_call 31; refine (tick_any _ _).mono ?_; rintro e w' ⟨rfl, rfl⟩))
  go_ret
  refine ⟨ret1 ?_, rfl⟩
  show clampI (clampI a 0 1099511627776 + clampI b 0 1099511627776) 0 1099511627776 = laterI a b
  unfold laterI
  generalize clampI a 0 1099511627776 = x at *
  generalize clampI b 0 1099511627776 = y at *
  unfold clampI
  (repeat' split) <;> omega
def pickI (c n : Int) : Int := if c < 0 then (-(c + 1)) % n else c % n
theorem pick_bd (c n : Int) (hn : 0 < n) : 0 ≤ pickI c n ∧ pickI c n < n := by
  unfold pickI
  split
  · exact ⟨Int.emod_nonneg _ (by omega), Int.emod_lt_of_pos _ hn⟩
  · exact ⟨Int.emod_nonneg _ (by omega), Int.emod_lt_of_pos _ hn⟩
theorem pick_neg (c n : Int) (hc : c < 0) : -((c + 1).tmod n) = (-(c + 1)) % n := by
  rw [← Int.neg_tmod, Int.tmod_eq_emod_of_nonneg (by omega)]
theorem pick_any (c n : Int) (w : World) (h : -9223372036854775808 ≤ c) (h' : c ≤ 9223372036854775807) (hn : 0 < n) : Calls Try.prog 12 #[.int .i64 c, .int .i64 n] w fun e w' => e = .returned (.int .i64 (pickI c n)) ∧ w' = w := by
  by_cases hc : c < 0
  · rw [show pickI c n = (-(c + 1)) % n from if_pos hc]
    go_enter Try.func12, Try.ntmps12
    go_wp2
    go_ret
    exact ⟨ret1 (pick_neg c n hc), rfl⟩
  · rw [show pickI c n = c % n from if_neg hc]
    go_enter Try.func12, Try.ntmps12
    go_wp2
    go_ret
    exact ⟨rfl, rfl⟩
def amountI (c : Int) : Int := pickI c 2000000000001 - 1000000000000
theorem amount_bd (c : Int) : rightI (amountI c) = true := by
  have h := pick_bd c 2000000000001 (by omega)
  exact decide_eq_true (by unfold amountI; omega)
theorem amount_any (c : Int) (w : World) (h : -9223372036854775808 ≤ c) (h' : c ≤ 9223372036854775807) : Calls Try.prog 16 #[.int .i64 c] w fun e w' => e = .returned (.int .i64 (amountI c)) ∧ w' = w := by
  have hb := pick_bd c 2000000000001 (by omega)
  go_enter Try.func16, Try.ntmps16
  go_wp2_with (first | (go_at_call 12; refine (pick_any _ _ _ h h' (by omega)).mono ?_; rintro e w' ⟨rfl, rfl⟩))
  go_ret
  exact ⟨rfl, rfl⟩
end Go.Proofs.Ytbkhbmjhdggocaa.MoneyA
