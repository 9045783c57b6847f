/- The walk of MoneyTells: true at all whole numbers of 64 bits. -/
import Derived.Test.YtbkhbmjhdggocaaMoneyD
import Derived.Outline
import Derived.OwnWalk
namespace Go.Proofs.Ytbkhbmjhdggocaa.MoneyA
open Go.RowKit

theorem kp {P : Program} {f : Nat} {vs : Array Value} {W : World} {v : Value} (h : Calls P f vs W fun e w' => e = .returned v ∧ w' = W) : Calls P f vs W fun e w' => e = .returned v ∧ W = w' := h.mono fun _ _ ⟨he, hw⟩ => ⟨he, hw.symm⟩
theorem quiet_add_same {P : Program} {f : FuncId} {args : Array Value} {w : World} {a n : Nat} {v : Value}
    (h : Calls P f args (w.drewN (a + n)) fun e w' => e = .returned v ∧ w' = w.drewN (a + n)) :
    Calls P f args (w.drewN (a + n)) fun e w'' => e = .returned v ∧ ∃ m, w'' = w.drewN (a + m) :=
  h.mono fun _ _ ⟨he, hm⟩ => ⟨he, n, hm⟩
theorem below_draws {B : Nat} {a w : World} (h : Below B a w) (n : Nat) : Below B a (w.drewN n) := ⟨h.os, h.tape, h.output, h.size, h.block⟩
def partAll (a b : Int) (up : Bool) : Int × Int := if rightI a = true ∧ -100000 ≤ b ∧ b ≤ 100000 then partI (a * b) up else (0, 10)
theorem part_any (a b : Int) (up : Bool) (w : World) : Calls Try.prog 13 #[.int .i64 a, .int .i64 b, .bool up] w fun e w' => e = .returned (.tuple #[.int .i64 (partAll a b up).1, .int .i64 (partAll a b up).2]) ∧ w' = w := by
  by_cases h : rightI a = true ∧ -100000 ≤ b ∧ b ≤ 100000
  · rw [show partAll a b up = partI (a * b) up from if_pos h]
    exact part_in a b up w h.1 h.2.1 h.2.2
  · rw [show partAll a b up = (0, 10) from if_neg h]
    exact part_out a b up w h
theorem refPart_any (a b : Int) (up : Bool) (w : World) : Calls Try.prog 25 #[.int .i64 a, .int .i64 b, .bool up] w fun e w' => e = .returned (.tuple #[.int .i64 (partAll a b up).1, .int .i64 (partAll a b up).2]) ∧ w' = w := by
  by_cases h : rightI a = true ∧ -100000 ≤ b ∧ b ≤ 100000
  · rw [show partAll a b up = partI (a * b) up from if_pos h]
    exact refPart_in a b up w h.1 h.2.1 h.2.2
  · rw [show partAll a b up = (0, 10) from if_neg h]
    exact refPart_out a b up w h

set_option maxRecDepth 100000 in
set_option maxHeartbeats 8000000 in
theorem tells_walk (a b c : Int) (up : Bool) (w : World) (ba : -9223372036854775808 ≤ a ∧ a ≤ 9223372036854775807) (bb : -9223372036854775808 ≤ b ∧ b ≤ 9223372036854775807) (bc : -9223372036854775808 ≤ c ∧ c ≤ 9223372036854775807) :
    Calls Try.prog 7 #[.int .i64 a, .int .i64 b, .int .i64 c, .bool up] w fun e w' => e = .returned (.bool true) ∧ Below w.heap.size w w' := by
  go_enter Try.func7, Try.ntmps7
  go_wp2_with (first | (go_at_call 11; refine (kp (awake_any _)).mono ?_; rintro e w' ⟨rfl, rfl⟩) | (go_at_call 16; refine (kp (amount_any _ _ (by omega) (by omega))).mono ?_; rintro e w' ⟨rfl, rfl⟩) | (go_at_call 12; refine (kp (pick_any _ _ _ (by omega) (by omega) (by omega))).mono ?_; rintro e w' ⟨rfl, rfl⟩))
  obtain ⟨X, hX⟩ : ∃ X : Nat → Int, ∀ j, j < 12 → (w.alloc (.cells #[.int .i64 a, .int .i64 b, .int .i64 c, .int .i64 (amountI a), .int .i64 (amountI b), .int .i64 (amountI c), .int .i64 (amountI a), .int .i64 (wrap64 (pickI b 200001 - 100000)), .int .i64 c,
      .int .i64 (pickI a 2000000), .int .i64 (pickI b 2000000), .int .i64 (pickI c 2000000)] 31)).cell? ⟨w.heap.size, j, none⟩ = some (.int .i64 (X j)) := by
    refine ⟨fun j => [a, b, c, amountI a, amountI b, amountI c, amountI a, wrap64 (pickI b 200001 - 100000), c, pickI a 2000000, pickI b 2000000, pickI c 2000000].getD j 0, fun j hj => ?_⟩
    rw [cell_of_row _ _ j _ 31 (0, 0) (heap_alloc_new w _)]
    match j, hj with
    | 0, _ => rfl
    | 1, _ => rfl
    | 2, _ => rfl
    | 3, _ => rfl
    | 4, _ => rfl
    | 5, _ => rfl
    | 6, _ => rfl
    | 7, _ => rfl
    | 8, _ => rfl
    | 9, _ => rfl
    | 10, _ => rfl
    | 11, _ => rfl
  have hbel : Below w.heap.size w (w.alloc (.cells #[.int .i64 a, .int .i64 b, .int .i64 c, .int .i64 (amountI a), .int .i64 (amountI b), .int .i64 (amountI c), .int .i64 (amountI a), .int .i64 (wrap64 (pickI b 200001 - 100000)), .int .i64 c,
      .int .i64 (pickI a 2000000), .int .i64 (pickI b 2000000), .int .i64 (pickI c 2000000)] 31)) := (Below.refl _ _).alloc (Nat.le_refl _) _
  have hsz : w.heap.size < (w.alloc (.cells #[.int .i64 a, .int .i64 b, .int .i64 c, .int .i64 (amountI a), .int .i64 (amountI b), .int .i64 (amountI c), .int .i64 (amountI a), .int .i64 (wrap64 (pickI b 200001 - 100000)), .int .i64 c,
      .int .i64 (pickI a 2000000), .int .i64 (pickI b 2000000), .int .i64 (pickI c 2000000)] 31)).heap.size := by simp
  generalize w.alloc _ = wo at hX hbel hsz ⊢
  have HX : Hid (∀ j, j < 12 → wo.cell? ⟨w.heap.size, j, none⟩ = some (.int .i64 (X j))) := hX
  have HB : Hid (Below w.heap.size w wo) := hbel
  clear hX hbel
  go_loopw [44] (fun i wr => ∃ k : Nat, k ≤ 4 ∧ i = .int .i64 k ∧ Hid (Below w.heap.size w wr) ∧ Hid (Below wo.heap.size wo wr)) (fun i _ => 4 - (intOf i).toNat)
  case atStart => exact ⟨0, by omega, rfl, HB, Below.refl _ _⟩
  case round =>
    obtain ⟨k, hk, rfl, hb, ho⟩ := hrel
    by_cases hlt : k < 4
    · have c0 := (ho.out.cell (p := ⟨w.heap.size, k * 3, none⟩) hsz).trans (HX.out (k * 3) (by omega))
      have c1 := (ho.out.cell (p := ⟨w.heap.size, k * 3 + 1, none⟩) hsz).trans (HX.out (k * 3 + 1) (by omega))
      have c2 := (ho.out.cell (p := ⟨w.heap.size, k * 3 + 2, none⟩) hsz).trans (HX.out (k * 3 + 2) (by omega))
      generalize X (k * 3) = x0 at c0
      generalize X (k * 3 + 1) = x1 at c1
      generalize X (k * 3 + 2) = x2 at c2
      go_wp2_with (first | (go_at_call 17; refine (kp (add_any _ _ _)).mono ?_; rintro e w' ⟨rfl, rfl⟩) | (go_at_call 18; refine (kp (refAdd_any _ _ _)).mono ?_; rintro e w' ⟨rfl, rfl⟩))
      go_quiet (first | (go_at_call 19; exact Calls.quiet_of_same (right_any _ _)) | (go_at_call 20; exact Calls.quiet_of_same (refRight_any _ _)))
      go_wp2_with (first | (go_at_call 21; refine (kp (sub_any _ _ _)).mono ?_; rintro e w' ⟨rfl, rfl⟩) | (go_at_call 22; refine (kp (refSub_any _ _ _)).mono ?_; rintro e w' ⟨rfl, rfl⟩) | (go_at_call 23; refine (times_any _ _ _).mono ?_; rintro e w' ⟨rfl, m1, rfl⟩) | (go_at_call 24; refine (refTimes_any _ _ _).mono ?_; rintro e w' ⟨rfl, m2, rfl⟩) | (go_at_call 13; refine (kp (part_any _ _ _ _)).mono ?_; rintro e w' ⟨rfl, rfl⟩) | (go_at_call 25; refine (kp (refPart_any _ _ _ _)).mono ?_; rintro e w' ⟨rfl, rfl⟩))
      go_quiet (first | (go_at_call 14; exact quiet_add_same (clamp_any _ _ _ _)) | (go_at_call 26; exact quiet_add_same (refClamp_any _ _ _ _)) | (go_at_call 15; exact quiet_add_same (later_any _ _ _)) | (go_at_call 27; exact quiet_add_same (refLater_any _ _ _)))
      go_wp2
      go_roundw
      case rel => exact ⟨k + 1, by omega, by go_num, below_draws (hb.out.alloc (Nat.le_trans (Nat.le_of_lt hsz) ho.out.size) _) _, below_draws (ho.out.alloc ho.out.size _) _⟩
      case measure => simp [intOf]; omega
    · go_wp2
      go_ret
      exact ⟨rfl, hb.out⟩
theorem tells_any (a b c : Int) (up : Bool) (w : World) (wa : (Lit.int .i64 a).wf = true) (wb : (Lit.int .i64 b).wf = true) (wc : (Lit.int .i64 c).wf = true) :
    Calls Try.prog 7 #[.int .i64 a, .int .i64 b, .int .i64 c, .bool up] w fun e w' => e = .returned (.bool true) ∧ Below w.heap.size w w' :=
  tells_walk a b c up w (wfB wa) (wfB wb) (wfB wc)
end Go.Proofs.Ytbkhbmjhdggocaa.MoneyA
