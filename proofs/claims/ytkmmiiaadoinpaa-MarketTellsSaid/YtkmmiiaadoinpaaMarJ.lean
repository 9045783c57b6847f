/- Contract of awake. -/
import Derived.Test.YtkmmiiaadoinpaaMarI
namespace Go.Proofs.Ytkmmiiaadoinpaa.Mar
open Go.RowKit Go.Proofs.Ytkmmiiaadoinpaa.Mem

def Is {α : Type} (d : En α) (e : TypeId) (w : World) (xs : List α) (n : Nat) (r : Ending) (w' : World) : Prop := ∃ A c, r = .returned (.slice A n c) ∧ d.Own e w' w.heap.size A c xs ∧ Below w.heap.size w w'
def IsN (w : World) (xs : List Mail) (n : Nat) (k : Int) (r : Ending) (w' : World) : Prop := ∃ A c, r = .returned (.tuple #[.slice A n c, .int .i64 k]) ∧ dM.Own 26 w' w.heap.size A c xs ∧ Below w.heap.size w w'
theorem aw1 (A : Option Addr) (c : Nat) (W : World) (h : dS.At W A c [⟨0, 0⟩, ⟨0, 0⟩]) : Calls Try.prog 22 #[.slice A 2 c, .agg #[.int .i64 1, .int .i64 2, .int .i64 5]] W (Is dS 44 W [⟨0, 0⟩, ⟨2, 5⟩] 2) :=
  show_any A c _ ⟨1, 2, 5⟩ W h (by decide)
theorem aw2 (A : Option Addr) (c : Nat) (W : World) (h : dS.At W A c [⟨0, 0⟩, ⟨2, 5⟩]) : Calls Try.prog 22 #[.slice A 2 c, .agg #[.int .i64 1, .int .i64 1, .int .i64 9]] W (Is dS 44 W [⟨0, 0⟩, ⟨2, 5⟩] 2) :=
  show_any A c _ ⟨1, 1, 9⟩ W h (by decide)
theorem aw3 (W : World) : Calls Try.prog 11 #[.slice none 0 0, .agg #[.int .i64 0, .int .i64 3, .int .i64 0]] W (IsN W [⟨0, 3, 0⟩] 1 0) :=
  post_any none 0 [] ⟨0, 3, 0⟩ W En.At.none_ (by decide)
theorem aw4 (A : Option Addr) (c : Nat) (W : World) (h : dM.At W A c [⟨0, 3, 0⟩]) : Calls Try.prog 15 #[.slice A 1 c, .int .i64 0] W (IsN W [⟨0, 3, 0⟩, ⟨0, 3, 0⟩] 2 0) :=
  copy_any A c _ 0 W h (by decide)
theorem aw5 (A : Option Addr) (c : Nat) (W : World) (h : dM.At W A c [⟨0, 3, 0⟩, ⟨0, 3, 0⟩]) : Calls Try.prog 17 #[.slice A 2 c, .int .i64 2] W (IsN W [⟨0, 3, 0⟩, ⟨0, 3, 0⟩] 2 1) :=
  lose_any A c _ 2 W h (by decide)
theorem aw6 (A : Option Addr) (c : Nat) (W : World) (h : dM.At W A c [⟨0, 3, 0⟩, ⟨0, 3, 0⟩]) : Calls Try.prog 19 #[.slice A 2 c, .int .i64 1] W
    fun e w' => ∃ A' c', e = .returned (.tuple #[.agg #[.int .i64 0, .int .i64 3, .int .i64 0], .slice A' 1 c', .bool true]) ∧ dM.Own 26 w' W.heap.size A' c' [⟨0, 3, 0⟩] ∧ Below W.heap.size W w' :=
  take_any A c _ 1 W h (by decide)
theorem lit2 (w : World) : dS.Own 44 (w.alloc (.cells #[.int .i64 0, .int .i64 0, .int .i64 0, .int .i64 0] 44)) w.heap.size (some ⟨w.heap.size, 0, none⟩) 2 [⟨0, 0⟩, ⟨0, 0⟩] :=
  En.Own.lit dS w w.heap.size 44 _ [⟨0, 0⟩, ⟨0, 0⟩] (Nat.le_refl _) (by decide) rfl
theorem mkS (n : Nat) (hn : n ≤ 1000) (cs : Array Value) (hcs : madeCells (Value.agg #[.int .i64 0, .int .i64 0]).cells (n * 2) = cs) (w : World) : (Instr.makeSlice 24 (.int .i64 n) (.int .i64 n)).run Try.prog w = .ok (.slice (some ⟨w.heap.size, 0, none⟩) n n) (w.alloc (.cells cs 44)) := by
  obtain ⟨i0, hi, iz, isz, iby⟩ := info_parts info44
  have hr := run_make (P := Try.prog) w 24 44 i0 _ Try.underlying24 hi iz .i64 .i64 n n (by omega) (by omega) (by rw [iby]; omega) (by omega)
  simp only [Int.toNat_natCast] at hr
  rw [isz, hcs] at hr
  exact hr
theorem mk2 (w : World) : (Instr.makeSlice 24 (.int .i64 2) (.int .i64 2)).run Try.prog w = .ok (.slice (some ⟨w.heap.size, 0, none⟩) 2 2) (w.alloc (.cells #[.int .i64 0, .int .i64 0, .int .i64 0, .int .i64 0] 44)) := mkS 2 (by decide) _ (by kernel_rfl) w
theorem mk3 (w : World) : (Instr.makeSlice 24 (.int .i64 3) (.int .i64 3)).run Try.prog w = .ok (.slice (some ⟨w.heap.size, 0, none⟩) 3 3) (w.alloc (.cells #[.int .i64 0, .int .i64 0, .int .i64 0, .int .i64 0, .int .i64 0, .int .i64 0] 44)) := mkS 3 (by decide) _ (by kernel_rfl) w
set_option maxHeartbeats 2000000 in
theorem awake_any (w : World) : Calls Try.prog 9 #[] w fun e w' => e = .returned (.bool true) ∧ Below w.heap.size w w' := by
  have hmk := mk2
  go_enter Try.func9, Try.ntmps9
  go_wp2_with (first
    | (go_at_call 22; refine (aw2 _ _ _ O1.out.at_).mono ?_; rintro e w2 ⟨A2, c2, rfl, o2, b2⟩; have O2 := Lib.hid o2; have B2 := Lib.hid b2; clear o2 b2)
    | (go_at_call 22; refine (aw1 _ _ _ (lit2 w).at_).mono ?_; rintro e w1 ⟨A1, c1, rfl, o1, b1⟩; have O1 := Lib.hid o1; have B1 := Lib.hid b1; clear o1 b1)
    | (go_at_call 11; refine (aw3 _).mono ?_; rintro e w3 ⟨A3, c3, rfl, o3, b3⟩; have O3 := Lib.hid o3; have B3 := Lib.hid b3; clear o3 b3)
    | (go_at_call 15; refine (aw4 _ _ _ O3.out.at_).mono ?_; rintro e w4 ⟨A4, c4, rfl, o4, b4⟩; have O4 := Lib.hid o4; have B4 := Lib.hid b4; clear o4 b4)
    | (go_at_call 17; refine (aw5 _ _ _ O4.out.at_).mono ?_; rintro e w5 ⟨A5, c5, rfl, o5, b5⟩; have O5 := Lib.hid o5; have B5 := Lib.hid b5; clear o5 b5)
    | (go_at_call 19; refine (aw6 _ _ _ (O4.out.at_.below B5.out)).mono ?_; rintro e w6 ⟨A6, c6, rfl, o6, b6⟩; have O6 := Lib.hid o6; have B6 := Lib.hid b6; clear o6 b6))
  obtain ⟨g1, rfl, _, l1, p1, p2⟩ := own_getS O1.out 1 ⟨2, 5⟩ rfl
  obtain ⟨g2, rfl, _, l2, p3, p4⟩ := own_getS O2.out 1 ⟨2, 5⟩ rfl
  have B16 : Below w1.heap.size w1 w6 := below_step (below_step (below_step (below_step B2.out B3.out) B4.out) B5.out) B6.out
  have B26 : Below w2.heap.size w2 w6 := below_step (below_step (below_step B3.out B4.out) B5.out) B6.out
  have s1 : w6.cell? ⟨g1, 2, none⟩ = some (.int .i64 2) := below_cell B16 p1
  have s2 : w6.cell? ⟨g1, 3, none⟩ = some (.int .i64 5) := below_cell B16 p2
  have s3 : w6.cell? ⟨g2, 2, none⟩ = some (.int .i64 2) := below_cell B26 p3
  have s4 : w6.cell? ⟨g2, 3, none⟩ = some (.int .i64 5) := below_cell B26 p4
  have z1 := B16.size
  have z2 := B26.size
  have n1 : g1 ≠ w6.heap.size := by omega
  have n2 : g2 ≠ w6.heap.size := by omega
  have n3 : g1 < w6.heap.size := by omega
  have n4 : g2 < w6.heap.size := by omega
  have n5 : w6.heap.size ≠ g1 := by omega
  have n6 : w6.heap.size ≠ g2 := by omega
  have BB := Lib.hid (below_step (below_step (below_alloc (Below.refl _ _) _) B1.out) B16)
  clear p1 p2 p3 p4 z1 z2 l1 l2 B16 B26
  go_quiet (fail)
  go_wp2
  go_ret
  exact ⟨rfl, below_drewN (below_alloc BB.out _) _⟩
end Go.Proofs.Ytkmmiiaadoinpaa.Mar
