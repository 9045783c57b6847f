/- pick, decimal, Seller; Fresh. -/
import Derived.Test.YtjehhpppihmpgaaBooI
import Derived.Test.YtjehhpppihmpgaaBooH
import Derived.Laws.BytesArg
namespace Go.Proofs.Ytjehhpppihmpgaa.Boo
open Go.RowKit Go.Proofs.Ytjehhpppihmpgaa.Mem

def pickI (c n : Int) : Int := if c < 0 then (-(c + 1)) % n else c % n
theorem pick_neg (c n : Int) (hc : c < 0) : -((c + 1).tmod n) = (-(c + 1)) % n := by
  rw [← Int.neg_tmod, Int.tmod_eq_emod_of_nonneg (by omega)]
theorem pick_bd (c n : Int) (hn : 0 < n) : 0 ≤ pickI c n ∧ pickI c n < n := by
  unfold pickI
  split
  · exact ⟨Int.emod_nonneg _ (by omega), Int.emod_lt_of_pos _ hn⟩
  · exact ⟨Int.emod_nonneg _ (by omega), Int.emod_lt_of_pos _ hn⟩
def I64 (a : Int) : Prop := -9223372036854775808 ≤ a ∧ a ≤ 9223372036854775807
theorem pick13_any (c n : Int) (w : World) (h : I64 c) (hn : 0 < n) : Calls Try.prog 13 #[.int .i64 c, .int .i64 n] w fun e w' => e = .returned (.int .i64 (pickI c n)) ∧ w = w' := by
  obtain ⟨h, h'⟩ := h
  by_cases hc : c < 0
  · rw [show pickI c n = (-(c + 1)) % n from if_pos hc]
    go_enter Try.func13, Try.ntmps13
    go_wp2
    go_ret
    exact ⟨ret1 (pick_neg c n hc), rfl⟩
  · rw [show pickI c n = c % n from if_neg hc]
    go_enter Try.func13, Try.ntmps13
    go_wp2
    go_ret
    exact ⟨rfl, rfl⟩
theorem pick27_any (c n : Int) (w : World) (h : I64 c) (hn : 0 < n) : Calls Try.prog 27 #[.int .i64 c, .int .i64 n] w fun e w' => e = .returned (.int .i64 (pickI c n)) ∧ w = w' := by
  obtain ⟨h, h'⟩ := h
  by_cases hc : c < 0
  · rw [show pickI c n = (-(c + 1)) % n from if_pos hc]
    go_enter Try.func27, Try.ntmps27
    go_wp2
    go_ret
    exact ⟨ret1 (pick_neg c n hc), rfl⟩
  · rw [show pickI c n = c % n from if_neg hc]
    go_enter Try.func27, Try.ntmps27
    go_wp2
    go_ret
    exact ⟨rfl, rfl⟩
def decB (q : Nat) : ByteArray := ⟨#[(48 + q).toUInt8]⟩
theorem dec_any (q : Nat) (hq : q < 10) (w : World) : Calls Try.prog 28 #[.int .i64 q] w (Ret (.string (decB q)) w) := by
  rcases q with _ | _ | _ | _ | _ | _ | _ | _ | _ | _ | q
  · show Calls Try.prog 28 #[.int .i64 0] w (Ret (.string ⟨#[48]⟩) w)
    have hcv : (convert 73 9 (.slice (some ⟨w.heap.size, 0, none⟩) 1 1)).run Try.prog (w.alloc (.cells #[.int .u8 48] 5)) = .ok (.string ⟨#[48]⟩) (w.alloc (.cells #[.int .u8 48] 5)) :=
      run_convert_bytes_arg (P := Try.prog) (w.alloc (.cells #[.int .u8 48] 5)) 73 5 Try.underlying73 Try.underlying5 w.heap.size 0 1 1 [48] rfl (fun i hi => by obtain rfl : i = 0 := (by omega); exact cell_new w #[.int .u8 48] 5 0) 9 Try.underlying9
    go_enter Try.func28, Try.ntmps28
    go_wp2
    go_ret
    exact ⟨rfl, below_alloc (Below.refl _ _) _⟩
  · show Calls Try.prog 28 #[.int .i64 1] w (Ret (.string ⟨#[49]⟩) w)
    have hcv : (convert 73 9 (.slice (some ⟨w.heap.size, 0, none⟩) 1 1)).run Try.prog (w.alloc (.cells #[.int .u8 49] 5)) = .ok (.string ⟨#[49]⟩) (w.alloc (.cells #[.int .u8 49] 5)) :=
      run_convert_bytes_arg (P := Try.prog) (w.alloc (.cells #[.int .u8 49] 5)) 73 5 Try.underlying73 Try.underlying5 w.heap.size 0 1 1 [49] rfl (fun i hi => by obtain rfl : i = 0 := (by omega); exact cell_new w #[.int .u8 49] 5 0) 9 Try.underlying9
    go_enter Try.func28, Try.ntmps28
    go_wp2
    go_ret
    exact ⟨rfl, below_alloc (Below.refl _ _) _⟩
  · show Calls Try.prog 28 #[.int .i64 2] w (Ret (.string ⟨#[50]⟩) w)
    have hcv : (convert 73 9 (.slice (some ⟨w.heap.size, 0, none⟩) 1 1)).run Try.prog (w.alloc (.cells #[.int .u8 50] 5)) = .ok (.string ⟨#[50]⟩) (w.alloc (.cells #[.int .u8 50] 5)) :=
      run_convert_bytes_arg (P := Try.prog) (w.alloc (.cells #[.int .u8 50] 5)) 73 5 Try.underlying73 Try.underlying5 w.heap.size 0 1 1 [50] rfl (fun i hi => by obtain rfl : i = 0 := (by omega); exact cell_new w #[.int .u8 50] 5 0) 9 Try.underlying9
    go_enter Try.func28, Try.ntmps28
    go_wp2
    go_ret
    exact ⟨rfl, below_alloc (Below.refl _ _) _⟩
  · show Calls Try.prog 28 #[.int .i64 3] w (Ret (.string ⟨#[51]⟩) w)
    have hcv : (convert 73 9 (.slice (some ⟨w.heap.size, 0, none⟩) 1 1)).run Try.prog (w.alloc (.cells #[.int .u8 51] 5)) = .ok (.string ⟨#[51]⟩) (w.alloc (.cells #[.int .u8 51] 5)) :=
      run_convert_bytes_arg (P := Try.prog) (w.alloc (.cells #[.int .u8 51] 5)) 73 5 Try.underlying73 Try.underlying5 w.heap.size 0 1 1 [51] rfl (fun i hi => by obtain rfl : i = 0 := (by omega); exact cell_new w #[.int .u8 51] 5 0) 9 Try.underlying9
    go_enter Try.func28, Try.ntmps28
    go_wp2
    go_ret
    exact ⟨rfl, below_alloc (Below.refl _ _) _⟩
  · show Calls Try.prog 28 #[.int .i64 4] w (Ret (.string ⟨#[52]⟩) w)
    have hcv : (convert 73 9 (.slice (some ⟨w.heap.size, 0, none⟩) 1 1)).run Try.prog (w.alloc (.cells #[.int .u8 52] 5)) = .ok (.string ⟨#[52]⟩) (w.alloc (.cells #[.int .u8 52] 5)) :=
      run_convert_bytes_arg (P := Try.prog) (w.alloc (.cells #[.int .u8 52] 5)) 73 5 Try.underlying73 Try.underlying5 w.heap.size 0 1 1 [52] rfl (fun i hi => by obtain rfl : i = 0 := (by omega); exact cell_new w #[.int .u8 52] 5 0) 9 Try.underlying9
    go_enter Try.func28, Try.ntmps28
    go_wp2
    go_ret
    exact ⟨rfl, below_alloc (Below.refl _ _) _⟩
  · show Calls Try.prog 28 #[.int .i64 5] w (Ret (.string ⟨#[53]⟩) w)
    have hcv : (convert 73 9 (.slice (some ⟨w.heap.size, 0, none⟩) 1 1)).run Try.prog (w.alloc (.cells #[.int .u8 53] 5)) = .ok (.string ⟨#[53]⟩) (w.alloc (.cells #[.int .u8 53] 5)) :=
      run_convert_bytes_arg (P := Try.prog) (w.alloc (.cells #[.int .u8 53] 5)) 73 5 Try.underlying73 Try.underlying5 w.heap.size 0 1 1 [53] rfl (fun i hi => by obtain rfl : i = 0 := (by omega); exact cell_new w #[.int .u8 53] 5 0) 9 Try.underlying9
    go_enter Try.func28, Try.ntmps28
    go_wp2
    go_ret
    exact ⟨rfl, below_alloc (Below.refl _ _) _⟩
  · show Calls Try.prog 28 #[.int .i64 6] w (Ret (.string ⟨#[54]⟩) w)
    have hcv : (convert 73 9 (.slice (some ⟨w.heap.size, 0, none⟩) 1 1)).run Try.prog (w.alloc (.cells #[.int .u8 54] 5)) = .ok (.string ⟨#[54]⟩) (w.alloc (.cells #[.int .u8 54] 5)) :=
      run_convert_bytes_arg (P := Try.prog) (w.alloc (.cells #[.int .u8 54] 5)) 73 5 Try.underlying73 Try.underlying5 w.heap.size 0 1 1 [54] rfl (fun i hi => by obtain rfl : i = 0 := (by omega); exact cell_new w #[.int .u8 54] 5 0) 9 Try.underlying9
    go_enter Try.func28, Try.ntmps28
    go_wp2
    go_ret
    exact ⟨rfl, below_alloc (Below.refl _ _) _⟩
  · show Calls Try.prog 28 #[.int .i64 7] w (Ret (.string ⟨#[55]⟩) w)
    have hcv : (convert 73 9 (.slice (some ⟨w.heap.size, 0, none⟩) 1 1)).run Try.prog (w.alloc (.cells #[.int .u8 55] 5)) = .ok (.string ⟨#[55]⟩) (w.alloc (.cells #[.int .u8 55] 5)) :=
      run_convert_bytes_arg (P := Try.prog) (w.alloc (.cells #[.int .u8 55] 5)) 73 5 Try.underlying73 Try.underlying5 w.heap.size 0 1 1 [55] rfl (fun i hi => by obtain rfl : i = 0 := (by omega); exact cell_new w #[.int .u8 55] 5 0) 9 Try.underlying9
    go_enter Try.func28, Try.ntmps28
    go_wp2
    go_ret
    exact ⟨rfl, below_alloc (Below.refl _ _) _⟩
  · show Calls Try.prog 28 #[.int .i64 8] w (Ret (.string ⟨#[56]⟩) w)
    have hcv : (convert 73 9 (.slice (some ⟨w.heap.size, 0, none⟩) 1 1)).run Try.prog (w.alloc (.cells #[.int .u8 56] 5)) = .ok (.string ⟨#[56]⟩) (w.alloc (.cells #[.int .u8 56] 5)) :=
      run_convert_bytes_arg (P := Try.prog) (w.alloc (.cells #[.int .u8 56] 5)) 73 5 Try.underlying73 Try.underlying5 w.heap.size 0 1 1 [56] rfl (fun i hi => by obtain rfl : i = 0 := (by omega); exact cell_new w #[.int .u8 56] 5 0) 9 Try.underlying9
    go_enter Try.func28, Try.ntmps28
    go_wp2
    go_ret
    exact ⟨rfl, below_alloc (Below.refl _ _) _⟩
  · show Calls Try.prog 28 #[.int .i64 9] w (Ret (.string ⟨#[57]⟩) w)
    have hcv : (convert 73 9 (.slice (some ⟨w.heap.size, 0, none⟩) 1 1)).run Try.prog (w.alloc (.cells #[.int .u8 57] 5)) = .ok (.string ⟨#[57]⟩) (w.alloc (.cells #[.int .u8 57] 5)) :=
      run_convert_bytes_arg (P := Try.prog) (w.alloc (.cells #[.int .u8 57] 5)) 73 5 Try.underlying73 Try.underlying5 w.heap.size 0 1 1 [57] rfl (fun i hi => by obtain rfl : i = 0 := (by omega); exact cell_new w #[.int .u8 57] 5 0) 9 Try.underlying9
    go_enter Try.func28, Try.ntmps28
    go_wp2
    go_ret
    exact ⟨rfl, below_alloc (Below.refl _ _) _⟩
  · omega
abbrev C6 : Array Value := #[.string ⟨#[97]⟩, .string ⟨#[98, 111, 98]⟩, .string ⟨#[108, 111, 119, 101, 115]⟩, .string ⟨#[97, 99, 109, 101, 57]⟩, .string ⟨#[120, 49]⟩, .string ⟨#[101, 108, 115, 101, 101]⟩]
def W6 : List ByteArray := [⟨#[97]⟩, ⟨#[98, 111, 98]⟩, ⟨#[108, 111, 119, 101, 115]⟩, ⟨#[97, 99, 109, 101, 57]⟩, ⟨#[120, 49]⟩, ⟨#[101, 108, 115, 101, 101]⟩]
theorem dec_of (q : Nat) (hq : q < 10) (a : Int) (W : World) (h : a = (q : Int)) : Calls Try.prog 28 #[.int .i64 a] W (Ret (.string (decB q)) W) := by subst h; exact dec_any q hq W
def baseB (r : Nat) : ByteArray := W6.getD r ⟨#[]⟩
def sellerB (k : Nat) : ByteArray := baseB (k % 6) ++ decB (k / 6)
theorem seller_0 (n κ : Int) (q : Nat) (w : World) (HP : Hid (∀ W, Calls Try.prog 27 #[.int .i64 n, .int .i64 60] W fun e w' => e = .returned (.int .i64 κ) ∧ W = w')) (h8 : 0 ≤ κ) (h6' : κ % 6 = 0) (h7 : κ / 6 = (q : Int)) (hq10 : q < 10) :
    Calls Try.prog 12 #[.int .i64 n] w (Ret (.string (⟨#[97]⟩ ++ decB q)) w) := by
  have HD := Lib.hid (fun (a : Int) (W : World) (h : a = (q : Int)) => dec_of q hq10 a W h)
  have hz : (decB q).size = 1 := rfl
  have h11 : IntKind.i64.wrap (q : Int) = (q : Int) := IntWalk.i64_in _ (by omega)
  have h9 : κ.tmod 6 = 0 := by rw [Int.tmod_eq_emod_of_nonneg h8]; exact h6'
  have h10 : κ.tdiv 6 = (q : Int) := by rw [Int.tdiv_eq_ediv_of_nonneg h8]; exact h7
  go_enter Try.func12, Try.ntmps12
  go_wp2_with (go_at_call 27; refine (HP.out _).mono ?_; rintro e w1 ⟨rfl, rfl⟩)
  go_region_with (go_at_call 28; refine (HD.out _ _ (by with_reducible first | exact h11 | exact h7 | exact h10 | rfl)).mono ?_; rintro e w2 ⟨rfl, hbel⟩; have HB := Lib.hid hbel; (try have hcl := below_cell hbel (cell_new _ C6 9 0)); clear hbel)
  all_goals go_wp2
  all_goals go_ret
  all_goals refine ⟨rfl, ?_⟩
  all_goals first | exact below_alloc (below_then (below_drew (Below.refl _ _)) (Nat.le_refl _) HB.out) _ | exact below_then (below_drew (below_alloc (Below.refl _ _) _)) (by simp) HB.out
theorem seller_1 (n κ : Int) (q : Nat) (w : World) (HP : Hid (∀ W, Calls Try.prog 27 #[.int .i64 n, .int .i64 60] W fun e w' => e = .returned (.int .i64 κ) ∧ W = w')) (h8 : 0 ≤ κ) (h6' : κ % 6 = 1) (h7 : κ / 6 = (q : Int)) (hq10 : q < 10) :
    Calls Try.prog 12 #[.int .i64 n] w (Ret (.string (⟨#[98, 111, 98]⟩ ++ decB q)) w) := by
  have HD := Lib.hid (fun (a : Int) (W : World) (h : a = (q : Int)) => dec_of q hq10 a W h)
  have hz : (decB q).size = 1 := rfl
  have h11 : IntKind.i64.wrap (q : Int) = (q : Int) := IntWalk.i64_in _ (by omega)
  have h9 : κ.tmod 6 = 1 := by rw [Int.tmod_eq_emod_of_nonneg h8]; exact h6'
  have h10 : κ.tdiv 6 = (q : Int) := by rw [Int.tdiv_eq_ediv_of_nonneg h8]; exact h7
  go_enter Try.func12, Try.ntmps12
  go_wp2_with (go_at_call 27; refine (HP.out _).mono ?_; rintro e w1 ⟨rfl, rfl⟩)
  go_region_with (go_at_call 28; refine (HD.out _ _ (by with_reducible first | exact h11 | exact h7 | exact h10 | rfl)).mono ?_; rintro e w2 ⟨rfl, hbel⟩; have HB := Lib.hid hbel; (try have hcl := below_cell hbel (cell_new _ C6 9 1)); clear hbel)
  all_goals go_wp2
  all_goals go_ret
  all_goals refine ⟨rfl, ?_⟩
  all_goals first | exact below_alloc (below_then (below_drew (Below.refl _ _)) (Nat.le_refl _) HB.out) _ | exact below_then (below_drew (below_alloc (Below.refl _ _) _)) (by simp) HB.out
theorem seller_2 (n κ : Int) (q : Nat) (w : World) (HP : Hid (∀ W, Calls Try.prog 27 #[.int .i64 n, .int .i64 60] W fun e w' => e = .returned (.int .i64 κ) ∧ W = w')) (h8 : 0 ≤ κ) (h6' : κ % 6 = 2) (h7 : κ / 6 = (q : Int)) (hq10 : q < 10) :
    Calls Try.prog 12 #[.int .i64 n] w (Ret (.string (⟨#[108, 111, 119, 101, 115]⟩ ++ decB q)) w) := by
  have HD := Lib.hid (fun (a : Int) (W : World) (h : a = (q : Int)) => dec_of q hq10 a W h)
  have hz : (decB q).size = 1 := rfl
  have h11 : IntKind.i64.wrap (q : Int) = (q : Int) := IntWalk.i64_in _ (by omega)
  have h9 : κ.tmod 6 = 2 := by rw [Int.tmod_eq_emod_of_nonneg h8]; exact h6'
  have h10 : κ.tdiv 6 = (q : Int) := by rw [Int.tdiv_eq_ediv_of_nonneg h8]; exact h7
  go_enter Try.func12, Try.ntmps12
  go_wp2_with (go_at_call 27; refine (HP.out _).mono ?_; rintro e w1 ⟨rfl, rfl⟩)
  go_region_with (go_at_call 28; refine (HD.out _ _ (by with_reducible first | exact h11 | exact h7 | exact h10 | rfl)).mono ?_; rintro e w2 ⟨rfl, hbel⟩; have HB := Lib.hid hbel; (try have hcl := below_cell hbel (cell_new _ C6 9 2)); clear hbel)
  all_goals go_wp2
  all_goals go_ret
  all_goals refine ⟨rfl, ?_⟩
  all_goals first | exact below_alloc (below_then (below_drew (Below.refl _ _)) (Nat.le_refl _) HB.out) _ | exact below_then (below_drew (below_alloc (Below.refl _ _) _)) (by simp) HB.out
theorem seller_3 (n κ : Int) (q : Nat) (w : World) (HP : Hid (∀ W, Calls Try.prog 27 #[.int .i64 n, .int .i64 60] W fun e w' => e = .returned (.int .i64 κ) ∧ W = w')) (h8 : 0 ≤ κ) (h6' : κ % 6 = 3) (h7 : κ / 6 = (q : Int)) (hq10 : q < 10) :
    Calls Try.prog 12 #[.int .i64 n] w (Ret (.string (⟨#[97, 99, 109, 101, 57]⟩ ++ decB q)) w) := by
  have HD := Lib.hid (fun (a : Int) (W : World) (h : a = (q : Int)) => dec_of q hq10 a W h)
  have hz : (decB q).size = 1 := rfl
  have h11 : IntKind.i64.wrap (q : Int) = (q : Int) := IntWalk.i64_in _ (by omega)
  have h9 : κ.tmod 6 = 3 := by rw [Int.tmod_eq_emod_of_nonneg h8]; exact h6'
  have h10 : κ.tdiv 6 = (q : Int) := by rw [Int.tdiv_eq_ediv_of_nonneg h8]; exact h7
  go_enter Try.func12, Try.ntmps12
  go_wp2_with (go_at_call 27; refine (HP.out _).mono ?_; rintro e w1 ⟨rfl, rfl⟩)
  go_region_with (go_at_call 28; refine (HD.out _ _ (by with_reducible first | exact h11 | exact h7 | exact h10 | rfl)).mono ?_; rintro e w2 ⟨rfl, hbel⟩; have HB := Lib.hid hbel; (try have hcl := below_cell hbel (cell_new _ C6 9 3)); clear hbel)
  all_goals go_wp2
  all_goals go_ret
  all_goals refine ⟨rfl, ?_⟩
  all_goals first | exact below_alloc (below_then (below_drew (Below.refl _ _)) (Nat.le_refl _) HB.out) _ | exact below_then (below_drew (below_alloc (Below.refl _ _) _)) (by simp) HB.out
theorem seller_4 (n κ : Int) (q : Nat) (w : World) (HP : Hid (∀ W, Calls Try.prog 27 #[.int .i64 n, .int .i64 60] W fun e w' => e = .returned (.int .i64 κ) ∧ W = w')) (h8 : 0 ≤ κ) (h6' : κ % 6 = 4) (h7 : κ / 6 = (q : Int)) (hq10 : q < 10) :
    Calls Try.prog 12 #[.int .i64 n] w (Ret (.string (⟨#[120, 49]⟩ ++ decB q)) w) := by
  have HD := Lib.hid (fun (a : Int) (W : World) (h : a = (q : Int)) => dec_of q hq10 a W h)
  have hz : (decB q).size = 1 := rfl
  have h11 : IntKind.i64.wrap (q : Int) = (q : Int) := IntWalk.i64_in _ (by omega)
  have h9 : κ.tmod 6 = 4 := by rw [Int.tmod_eq_emod_of_nonneg h8]; exact h6'
  have h10 : κ.tdiv 6 = (q : Int) := by rw [Int.tdiv_eq_ediv_of_nonneg h8]; exact h7
  go_enter Try.func12, Try.ntmps12
  go_wp2_with (go_at_call 27; refine (HP.out _).mono ?_; rintro e w1 ⟨rfl, rfl⟩)
  go_region_with (go_at_call 28; refine (HD.out _ _ (by with_reducible first | exact h11 | exact h7 | exact h10 | rfl)).mono ?_; rintro e w2 ⟨rfl, hbel⟩; have HB := Lib.hid hbel; (try have hcl := below_cell hbel (cell_new _ C6 9 4)); clear hbel)
  all_goals go_wp2
  all_goals go_ret
  all_goals refine ⟨rfl, ?_⟩
  all_goals first | exact below_alloc (below_then (below_drew (Below.refl _ _)) (Nat.le_refl _) HB.out) _ | exact below_then (below_drew (below_alloc (Below.refl _ _) _)) (by simp) HB.out
theorem seller_5 (n κ : Int) (q : Nat) (w : World) (HP : Hid (∀ W, Calls Try.prog 27 #[.int .i64 n, .int .i64 60] W fun e w' => e = .returned (.int .i64 κ) ∧ W = w')) (h8 : 0 ≤ κ) (h6' : κ % 6 = 5) (h7 : κ / 6 = (q : Int)) (hq10 : q < 10) :
    Calls Try.prog 12 #[.int .i64 n] w (Ret (.string (⟨#[101, 108, 115, 101, 101]⟩ ++ decB q)) w) := by
  have HD := Lib.hid (fun (a : Int) (W : World) (h : a = (q : Int)) => dec_of q hq10 a W h)
  have hz : (decB q).size = 1 := rfl
  have h11 : IntKind.i64.wrap (q : Int) = (q : Int) := IntWalk.i64_in _ (by omega)
  have h9 : κ.tmod 6 = 5 := by rw [Int.tmod_eq_emod_of_nonneg h8]; exact h6'
  have h10 : κ.tdiv 6 = (q : Int) := by rw [Int.tdiv_eq_ediv_of_nonneg h8]; exact h7
  go_enter Try.func12, Try.ntmps12
  go_wp2_with (go_at_call 27; refine (HP.out _).mono ?_; rintro e w1 ⟨rfl, rfl⟩)
  go_region_with (go_at_call 28; refine (HD.out _ _ (by with_reducible first | exact h11 | exact h7 | exact h10 | rfl)).mono ?_; rintro e w2 ⟨rfl, hbel⟩; have HB := Lib.hid hbel; (try have hcl := below_cell hbel (cell_new _ C6 9 5)); clear hbel)
  all_goals go_wp2
  all_goals go_ret
  all_goals refine ⟨rfl, ?_⟩
  all_goals first | exact below_alloc (below_then (below_drew (Below.refl _ _)) (Nat.le_refl _) HB.out) _ | exact below_then (below_drew (below_alloc (Below.refl _ _) _)) (by simp) HB.out
theorem seller_pick (K : Nat) (hK : K < 60) (n : Int) (hn : I64 n) (hk : pickI n 60 = (K : Int)) (w : World) : Calls Try.prog 12 #[.int .i64 n] w (Ret (.string (sellerB K)) w) := by
  have HP := Lib.hid (fun W => pick27_any n 60 W hn (by decide))
  rw [hk] at HP
  unfold sellerB
  generalize hr : K % 6 = r
  have hr6 : r < 6 := by omega
  have hm : (K : Int) % 6 = (r : Int) := by omega
  have hq : (K : Int) / 6 = ((K / 6 : Nat) : Int) := by omega
  rcases r with _ | _ | _ | _ | _ | _ | r
  · exact seller_0 n K (K / 6) w HP (by omega) hm hq (by omega)
  · exact seller_1 n K (K / 6) w HP (by omega) hm hq (by omega)
  · exact seller_2 n K (K / 6) w HP (by omega) hm hq (by omega)
  · exact seller_3 n K (K / 6) w HP (by omega) hm hq (by omega)
  · exact seller_4 n K (K / 6) w HP (by omega) hm hq (by omega)
  · exact seller_5 n K (K / 6) w HP (by omega) hm hq (by omega)
  · omega
end Go.Proofs.Ytjehhpppihmpgaa.Boo
