/- Contracts of the money functions and of the reference's, at all whole numbers. -/
import Derived.Test.YtbkhbmjhdggocaaRows
import Derived.WalkKit
import Derived.Deep.QuietTactic
import Derived.BigQuiet
import Derived.KernelRfl
import Derived.WalkLawsBesides
namespace Go.Proofs.Ytbkhbmjhdggocaa.MoneyA
open Go.RowKit

def rightI (a : Int) : Bool := decide (-1000000000000 ≤ a ∧ a ≤ 1000000000000)
def withinI (a b c : Int) : Bool := decide (b ≤ a ∧ a ≤ c)
def tell (q : Int) : Int × Int := if rightI q = true then (q, 0) else (0, 10)

theorem within_any (a b c : Int) (w : World) : Calls Try.prog 28 #[.int .i64 a, .int .i64 b, .int .i64 c] w fun e w' => e = .returned (.bool (withinI a b c)) ∧ w' = w := by
  unfold withinI
  by_cases h : b ≤ a
  · by_cases h' : a ≤ c
    · rw [decide_eq_true ⟨h, h'⟩]
      go_enter Try.func28, Try.ntmps28
      go_wp2
      go_ret
      exact ⟨rfl, rfl⟩
    · rw [decide_eq_false (fun k => h' k.2)]
      go_enter Try.func28, Try.ntmps28
      go_wp2
      go_ret
      exact ⟨rfl, rfl⟩
  · rw [decide_eq_false (fun k => h k.1)]
    go_enter Try.func28, Try.ntmps28
    go_wp2
    go_ret
    exact ⟨rfl, rfl⟩

theorem right_any (a : Int) (w : World) : Calls Try.prog 19 #[.int .i64 a] w fun e w' => e = .returned (.bool (rightI a)) ∧ w' = w := by
  go_enter Try.func19, Try.ntmps19
  go_wp2_with (go_at_call 28; refine (within_any _ _ _ _).mono ?_; rintro e w' ⟨rfl, rfl⟩)
  go_ret
  exact ⟨rfl, rfl⟩

theorem refRight_any (a : Int) (w : World) : Calls Try.prog 20 #[.int .i64 a] w fun e w' => e = .returned (.bool (rightI a)) ∧ w' = w := by
  unfold rightI
  by_cases h : -1000000000000 ≤ a
  · by_cases h' : a ≤ 1000000000000
    · rw [decide_eq_true ⟨h, h'⟩]
      go_enter Try.func20, Try.ntmps20
      go_wp2
      go_ret
      exact ⟨rfl, rfl⟩
    · rw [decide_eq_false (fun k => h' k.2)]
      go_enter Try.func20, Try.ntmps20
      go_wp2
      go_ret
      exact ⟨rfl, rfl⟩
  · rw [decide_eq_false (fun k => h k.1)]
    go_enter Try.func20, Try.ntmps20
    go_wp2
    go_ret
    exact ⟨rfl, rfl⟩

theorem of_yes (q : Int) (w : World) : Calls Try.prog 29 #[.int .i64 q, .bool true] w fun e w' => e = .returned (.tuple #[.int .i64 (tell q).1, .int .i64 (tell q).2]) ∧ w' = w := by
  unfold tell
  cases h : rightI q
  · go_enter Try.func29, Try.ntmps29
    go_wp2_with (go_at_call 19; refine (right_any _ _).mono ?_; rintro e w' ⟨rfl, rfl⟩)
    go_ret2
    exact ⟨rfl, rfl⟩
  · go_enter Try.func29, Try.ntmps29
    go_wp2_with (go_at_call 19; refine (right_any _ _).mono ?_; rintro e w' ⟨rfl, rfl⟩)
    go_ret2
    exact ⟨rfl, rfl⟩

theorem of_no (q : Int) (w : World) : Calls Try.prog 29 #[.int .i64 q, .bool false] w fun e w' => e = .returned (.tuple #[.int .i64 0, .int .i64 10]) ∧ w' = w := by
  go_enter Try.func29, Try.ntmps29
  go_wp2_with (go_at_call 19; refine (right_any _ _).mono ?_; rintro e w' ⟨rfl, rfl⟩)
  go_ret2
  exact ⟨rfl, rfl⟩

theorem told_any (q : Int) (w : World) : Calls Try.prog 30 #[.int .i64 q] w fun e w' => e = .returned (.tuple #[.int .i64 (tell q).1, .int .i64 (tell q).2]) ∧ w' = w := by
  unfold tell
  cases h : rightI q
  · go_enter Try.func30, Try.ntmps30
    go_wp2_with (go_at_call 20; refine (refRight_any _ _).mono ?_; rintro e w' ⟨rfl, rfl⟩)
    go_ret2
    exact ⟨rfl, rfl⟩
  · go_enter Try.func30, Try.ntmps30
    go_wp2_with (go_at_call 20; refine (refRight_any _ _).mono ?_; rintro e w' ⟨rfl, rfl⟩)
    go_ret2
    exact ⟨rfl, rfl⟩

theorem rightB {a : Int} (h : rightI a = true) : -1000000000000 ≤ a ∧ a ≤ 1000000000000 := of_decide_eq_true h
def both (a b : Int) (r : Int × Int) : Int × Int := if rightI a = true ∧ rightI b = true then r else (0, 10)
theorem both_no {a b : Int} {r : Int × Int} (h : rightI a = false) : both a b r = (0, 10) := by unfold both; rw [if_neg (by rw [h]; simp)]
theorem both_no' {a b : Int} {r : Int × Int} (h : rightI b = false) : both a b r = (0, 10) := by unfold both; rw [if_neg (by rw [h]; simp)]
theorem both_yes {a b : Int} {r : Int × Int} (h : rightI a = true) (h' : rightI b = true) : both a b r = r := if_pos ⟨h, h'⟩

theorem add_any (a b : Int) (w : World) : Calls Try.prog 17 #[.int .i64 a, .int .i64 b] w fun e w' => e = .returned (.tuple #[.int .i64 (both a b (tell (a + b))).1, .int .i64 (both a b (tell (a + b))).2]) ∧ w' = w := by
  rcases Bool.eq_false_or_eq_true (rightI a) with h | h
  · rcases Bool.eq_false_or_eq_true (rightI b) with h' | h'
    · have ha := rightB h
      have hb := rightB h'
      rw [both_yes h h']
      go_enter Try.func17, Try.ntmps17
      go_wp2_with (first | (go_at_call 19; refine (right_any _ _).mono ?_; rintro e w' ⟨rfl, rfl⟩) | (go_at_call 29; refine (of_yes _ _).mono ?_; rintro e w' ⟨rfl, rfl⟩))
      go_ret2
      exact ⟨rfl, rfl⟩
    · rw [both_no' h']
      go_enter Try.func17, Try.ntmps17
      go_wp2_with (first | (go_at_call 19; refine (right_any _ _).mono ?_; rintro e w' ⟨rfl, rfl⟩) | (go_at_call 29; refine (of_no _ _).mono ?_; rintro e w' ⟨rfl, rfl⟩))
      go_ret2
      exact ⟨rfl, rfl⟩
  · rw [both_no h]
    go_enter Try.func17, Try.ntmps17
    go_wp2_with (first | (go_at_call 19; refine (right_any _ _).mono ?_; rintro e w' ⟨rfl, rfl⟩) | (go_at_call 29; refine (of_no _ _).mono ?_; rintro e w' ⟨rfl, rfl⟩))
    go_ret2
    exact ⟨rfl, rfl⟩

theorem sub_any (a b : Int) (w : World) : Calls Try.prog 21 #[.int .i64 a, .int .i64 b] w fun e w' => e = .returned (.tuple #[.int .i64 (both a b (tell (a - b))).1, .int .i64 (both a b (tell (a - b))).2]) ∧ w' = w := by
  rcases Bool.eq_false_or_eq_true (rightI a) with h | h
  · rcases Bool.eq_false_or_eq_true (rightI b) with h' | h'
    · have ha := rightB h
      have hb := rightB h'
      rw [both_yes h h']
      go_enter Try.func21, Try.ntmps21
      go_wp2_with (first | (go_at_call 19; refine (right_any _ _).mono ?_; rintro e w' ⟨rfl, rfl⟩) | (go_at_call 29; refine (of_yes _ _).mono ?_; rintro e w' ⟨rfl, rfl⟩))
      go_ret2
      exact ⟨rfl, rfl⟩
    · rw [both_no' h']
      go_enter Try.func21, Try.ntmps21
      go_wp2_with (first | (go_at_call 19; refine (right_any _ _).mono ?_; rintro e w' ⟨rfl, rfl⟩) | (go_at_call 29; refine (of_no _ _).mono ?_; rintro e w' ⟨rfl, rfl⟩))
      go_ret2
      exact ⟨rfl, rfl⟩
  · rw [both_no h]
    go_enter Try.func21, Try.ntmps21
    go_wp2_with (first | (go_at_call 19; refine (right_any _ _).mono ?_; rintro e w' ⟨rfl, rfl⟩) | (go_at_call 29; refine (of_no _ _).mono ?_; rintro e w' ⟨rfl, rfl⟩))
    go_ret2
    exact ⟨rfl, rfl⟩

theorem refAdd_any (a b : Int) (w : World) : Calls Try.prog 18 #[.int .i64 a, .int .i64 b] w fun e w' => e = .returned (.tuple #[.int .i64 (both a b (tell (a + b))).1, .int .i64 (both a b (tell (a + b))).2]) ∧ w' = w := by
  rcases Bool.eq_false_or_eq_true (rightI a) with h | h
  · rcases Bool.eq_false_or_eq_true (rightI b) with h' | h'
    · have ha := rightB h
      have hb := rightB h'
      rw [both_yes h h']
      go_enter Try.func18, Try.ntmps18
      go_wp2_with (first | (go_at_call 20; refine (refRight_any _ _).mono ?_; rintro e w' ⟨rfl, rfl⟩) | (go_at_call 30; refine (told_any _ _).mono ?_; rintro e w' ⟨rfl, rfl⟩))
      go_ret2
      exact ⟨rfl, rfl⟩
    · rw [both_no' h']
      go_enter Try.func18, Try.ntmps18
      go_wp2_with (first | (go_at_call 20; refine (refRight_any _ _).mono ?_; rintro e w' ⟨rfl, rfl⟩))
      go_ret2
      exact ⟨rfl, rfl⟩
  · rw [both_no h]
    go_enter Try.func18, Try.ntmps18
    go_wp2_with (first | (go_at_call 20; refine (refRight_any _ _).mono ?_; rintro e w' ⟨rfl, rfl⟩))
    go_ret2
    exact ⟨rfl, rfl⟩

theorem refSub_any (a b : Int) (w : World) : Calls Try.prog 22 #[.int .i64 a, .int .i64 b] w fun e w' => e = .returned (.tuple #[.int .i64 (both a b (tell (a - b))).1, .int .i64 (both a b (tell (a - b))).2]) ∧ w' = w := by
  rcases Bool.eq_false_or_eq_true (rightI a) with h | h
  · rcases Bool.eq_false_or_eq_true (rightI b) with h' | h'
    · have ha := rightB h
      have hb := rightB h'
      rw [both_yes h h']
      go_enter Try.func22, Try.ntmps22
      go_wp2_with (first | (go_at_call 20; refine (refRight_any _ _).mono ?_; rintro e w' ⟨rfl, rfl⟩) | (go_at_call 30; refine (told_any _ _).mono ?_; rintro e w' ⟨rfl, rfl⟩))
      go_ret2
      exact ⟨rfl, rfl⟩
    · rw [both_no' h']
      go_enter Try.func22, Try.ntmps22
      go_wp2_with (first | (go_at_call 20; refine (refRight_any _ _).mono ?_; rintro e w' ⟨rfl, rfl⟩))
      go_ret2
      exact ⟨rfl, rfl⟩
  · rw [both_no h]
    go_enter Try.func22, Try.ntmps22
    go_wp2_with (first | (go_at_call 20; refine (refRight_any _ _).mono ?_; rintro e w' ⟨rfl, rfl⟩))
    go_ret2
    exact ⟨rfl, rfl⟩

end Go.Proofs.Ytbkhbmjhdggocaa.MoneyA
