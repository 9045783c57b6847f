/- Contracts of the closures, of small functions and of the comparisons. -/
import Derived.Test.YtjehhpppihmpgaaBooD
namespace Go.Proofs.Ytjehhpppihmpgaa.Boo
open Go.RowKit Go.Proofs.Ytjehhpppihmpgaa.Mem

theorem ent48 : Ent 48 := fun args w => by simp [callFunc, Try.func48]; rfl
theorem ent41 : Ent 41 := fun args w => by simp [callFunc, Try.func41]; rfl
theorem ent36 : Ent 36 := fun args w => by simp [callFunc, Try.func36]; rfl
def AtS (w : World) (B : Nat) (s : ByteArray) : Prop := w.cell? ⟨B, 0, none⟩ = some (.string s)
theorem AtS.below {w w' : World} {B : Nat} {n : ByteArray} (h : AtS w B n) (hb : Below w.heap.size w w') : AtS w' B n := below_cell hb h
theorem AtS.lt {w : World} {B : Nat} {n : ByteArray} (h : AtS w B n) : B < w.heap.size := World.block_lt_of_cell? w _ h
def At1 (w : World) (B : Nat) (n : Int) : Prop := w.cell? ⟨B, 0, none⟩ = some (.int .i64 n)
theorem At1.below {w w' : World} {B : Nat} {n : Int} (h : At1 w B n) (hb : Below w.heap.size w w') : At1 w' B n := below_cell hb h
theorem At1.lt {w : World} {B : Nat} {n : Int} (h : At1 w B n) : B < w.heap.size := World.block_lt_of_cell? w _ h
def soS (s : ByteArray) (x : Slot) : Bool := eqS x.s s
def soN (s : ByteArray) (x : Seen) : Bool := eqS x.s s
theorem of1_any (x : Slot) (s : ByteArray) (B : Nat) (w : World) (h : AtS w B s) : Calls Try.prog 48 #[x.val, .pointer (some ⟨B, 0, none⟩)] w (Ret (.bool (soS s x)) w) := by
  obtain ⟨xs, xp, xt⟩ := x
  have hlt := h.lt
  have hne : B ≠ w.heap.size := by omega
  have hc : w.cell? ⟨B, 0, none⟩ = some (.string s) := h
  clear h
  show Calls Try.prog 48 #[.agg #[.string xs, .int .i64 xp, .int .i64 xt], _] w (Ret (.bool (xs.toList == s.toList)) w)
  go_enter Try.func48, Try.ntmps48
  go_wp2
  go_ret
  exact ⟨rfl, below_alloc (Below.refl _ _) _⟩
theorem fr1_any (x : Seen) (s : ByteArray) (B : Nat) (w : World) (h : AtS w B s) : Calls Try.prog 41 #[x.val, .pointer (some ⟨B, 0, none⟩)] w (Ret (.bool (soN s x)) w) := by
  obtain ⟨xs, xn⟩ := x
  have hlt := h.lt
  have hne : B ≠ w.heap.size := by omega
  have hc : w.cell? ⟨B, 0, none⟩ = some (.string s) := h
  clear h
  show Calls Try.prog 41 #[.agg #[.string xs, .int .i64 xn], _] w (Ret (.bool (xs.toList == s.toList)) w)
  go_enter Try.func41, Try.ntmps41
  go_wp2
  go_ret
  exact ⟨rfl, below_alloc (Below.refl _ _) _⟩
def OfP (s : ByteArray) (w : World) (e : Ending) (w' : World) : Prop := ∃ B, e = .returned (.func (.func 48) #[] #[.pointer (some ⟨B, 0, none⟩)]) ∧ AtS w' B s ∧ w.heap.size ≤ B ∧ Below w.heap.size w w'
theorem of_any (s : ByteArray) (w : World) : Calls Try.prog 31 #[.string s] w (OfP s w) := by
  go_enter Try.func31, Try.ntmps31
  go_wp2
  go_ret
  exact ⟨w.heap.size, rfl, cell_new w #[.string s] 9 0, Nat.le_refl _, below_alloc (Below.refl _ _) _⟩

/-! Numbers. -/
def tickI (x : Int) : Int := if x < 0 then 0 else if 1099511627776 < x then 1099511627776 else x
theorem tickI_bd (x : Int) : 0 ≤ tickI x ∧ tickI x ≤ 1099511627776 := by unfold tickI; split <;> (try split) <;> omega
def laterI (t b : Int) : Int := if 1099511627776 < tickI t + tickI b then 1099511627776 else tickI t + tickI b
theorem tick52 (x : Int) (w : World) : Calls Try.prog 52 #[.int .i64 x, .int .i64 0, .int .i64 1099511627776] w fun e w' => e = .returned (.int .i64 (tickI x)) ∧ w = w' := by
  by_cases h : x < 0
  · rw [show tickI x = 0 from if_pos h]
    go_enter Try.func52, Try.ntmps52
    go_wp2
    go_ret
    exact ⟨rfl, rfl⟩
  · by_cases h' : 1099511627776 < x
    · rw [show tickI x = 1099511627776 by unfold tickI; rw [if_neg h, if_pos h']]
      go_enter Try.func52, Try.ntmps52
      go_wp2
      go_ret
      exact ⟨rfl, rfl⟩
    · rw [show tickI x = x by unfold tickI; rw [if_neg h, if_neg h']]
      by_cases h0 : x = 0
      · subst h0
        go_enter Try.func52, Try.ntmps52
        go_wp2
        go_ret
        exact ⟨rfl, rfl⟩
      · have h1 : 0 < x := by omega
        go_enter Try.func52, Try.ntmps52
        go_wp2
        go_ret
        exact ⟨rfl, rfl⟩
theorem later_any (a b : Int) (w : World) : Calls Try.prog 37 #[.int .i64 a, .int .i64 b] w fun e w' => e = .returned (.int .i64 (laterI a b)) ∧ w = w' := by
  have ha := tickI_bd a
  have hb := tickI_bd b
  go_enter Try.func37, Try.ntmps37
  go_wp2_with (first | (go_at_call 52; refine (tick52 _ _).mono ?_; rintro e w' ⟨rfl, rfl⟩))
  all_goals go_ret
  all_goals refine ⟨ret1 ?_, rfl⟩
  all_goals show _ = laterI a b
  all_goals unfold laterI
  · rw [if_pos (by assumption)]
  · rw [if_neg (by omega)]
theorem rtick_any (x : Int) (w : World) : Calls Try.prog 53 #[.int .i64 x] w fun e w' => e = .returned (.int .i64 (tickI x)) ∧ w = w' := by
  by_cases h : x < 0
  · rw [show tickI x = 0 from if_pos h]
    go_enter Try.func53, Try.ntmps53
    go_wp2
    go_ret
    exact ⟨rfl, rfl⟩
  · by_cases h' : 1099511627776 < x
    · rw [show tickI x = 1099511627776 by unfold tickI; rw [if_neg h, if_pos h']]
      go_enter Try.func53, Try.ntmps53
      go_wp2
      go_ret
      exact ⟨rfl, rfl⟩
    · rw [show tickI x = x by unfold tickI; rw [if_neg h, if_neg h']]
      go_enter Try.func53, Try.ntmps53
      go_wp2
      go_ret
      exact ⟨rfl, rfl⟩
theorem rlater_any (a b : Int) (w : World) : Calls Try.prog 38 #[.int .i64 a, .int .i64 b] w fun e w' => e = .returned (.int .i64 (laterI a b)) ∧ w = w' := by
  have ha := tickI_bd a
  have hb := tickI_bd b
  go_enter Try.func38, Try.ntmps38
  go_wp2_with (first | (go_at_call 53; refine (rtick_any _ _).mono ?_; rintro e w' ⟨rfl, rfl⟩))
  go_ret
  refine ⟨ret1 ?_, rfl⟩
  show tickI (tickI a + tickI b) = laterI a b
  unfold laterI
  generalize tickI a = x at *
  generalize tickI b = y at *
  unfold tickI
  rw [if_neg (by omega)]
def oldB (most now : Int) (x : Slot) : Bool := decide (laterI x.t most < now)
theorem exp1_any (x : Slot) (most now : Int) (B C : Nat) (w : World) (h : At1 w B most) (h' : At1 w C now) : Calls Try.prog 36 #[x.val, .pointer (some ⟨B, 0, none⟩), .pointer (some ⟨C, 0, none⟩)] w (Ret (.bool (oldB most now x)) w) := by
  obtain ⟨xs, xp, xt⟩ := x
  have hlt := h.lt
  have hlt' := h'.lt
  have hne : B ≠ w.heap.size := by omega
  have hne2 : C ≠ w.heap.size := by omega
  have hc : w.cell? ⟨B, 0, none⟩ = some (.int .i64 most) := h
  have hc' : w.cell? ⟨C, 0, none⟩ = some (.int .i64 now) := h'
  clear h h'
  show Calls Try.prog 36 #[.agg #[.string xs, .int .i64 xp, .int .i64 xt], _, _] w (Ret (.bool (decide (laterI xt most < now))) w)
  go_enter Try.func36, Try.ntmps36
  go_wp2_with fail
  go_quiet ((go_at_call 37; exact Calls.quiet_of_same ((later_any _ _ _).mono fun _ _ h => ⟨h.1, h.2.symm⟩)))
  go_wp2_with fail
  go_ret
  exact ⟨rfl, below_drewN (below_alloc (Below.refl _ _) _) _⟩
def slotB (x y : Slot) : Bool := eqS x.s y.s && decide (x.p = y.p ∧ x.t = y.t)
def seenB (x y : Seen) : Bool := eqS x.s y.s && decide (x.n = y.n)
theorem slotB_iff (x y : Slot) : slotB x y = true ↔ x = y := by
  unfold slotB
  rw [Bool.and_eq_true, decide_eq_true_iff]
  constructor
  · rintro ⟨h1, h2, h3⟩
    have := eqS_eq h1
    cases x; cases y; simp_all
  · rintro rfl
    exact ⟨eqS_self _, rfl, rfl⟩
theorem seenB_iff (x y : Seen) : seenB x y = true ↔ x = y := by
  unfold seenB
  rw [Bool.and_eq_true, decide_eq_true_iff]
  constructor
  · rintro ⟨h1, h2⟩
    have := eqS_eq h1
    cases x; cases y; simp_all
  · rintro rfl
    exact ⟨eqS_self _, rfl⟩
theorem eqA50 (w : World) (x y : Slot) : (Op.equalIn 10000 50 (.agg #[.string x.s, .int .i64 x.p, .int .i64 x.t]) (.agg #[.string y.s, .int .i64 y.p, .int .i64 y.t])).run Try.prog w = .ok (slotB x y) w := by
  have hS : Try.prog.underlying 50 = some (.struct (Try.prog.fieldsOf 50)) := by kernel_rfl
  have hp : Try.prog.stoodInHeld 50 = false := by kernel_rfl
  rw [show (10000 : Nat) = 9999 + 1 from rfl, run_equalIn_agg w 9999 50 _ _ hS hp]
  simp only [Program.fieldsOf, Try.underlying50]
  unfold slotB eqS
  go_simp
  by_cases h1 : (x.s.toList == y.s.toList) = true <;> by_cases h2 : x.p = y.p <;> by_cases h3 : x.t = y.t <;> simp_all
theorem eqA67 (w : World) (x y : Seen) : (Op.equalIn 10000 67 (.agg #[.string x.s, .int .i64 x.n]) (.agg #[.string y.s, .int .i64 y.n])).run Try.prog w = .ok (seenB x y) w := by
  have hS : Try.prog.underlying 67 = some (.struct (Try.prog.fieldsOf 67)) := by kernel_rfl
  have hp : Try.prog.stoodInHeld 67 = false := by kernel_rfl
  rw [show (10000 : Nat) = 9999 + 1 from rfl, run_equalIn_agg w 9999 67 _ _ hS hp]
  simp only [Program.fieldsOf, Try.underlying67]
  unfold seenB eqS
  go_simp
  by_cases h1 : (x.s.toList == y.s.toList) = true <;> by_cases h2 : x.n = y.n <;> simp_all
end Go.Proofs.Ytjehhpppihmpgaa.Boo
