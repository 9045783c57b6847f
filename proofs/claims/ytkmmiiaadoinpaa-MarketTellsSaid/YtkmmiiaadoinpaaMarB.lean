/- Contracts of slices.Grow and slices.Concat at []Mail. -/
import Derived.Test.YtkmmiiaadoinpaaMarA
import Derived.Lib.AppendZerosOnto
namespace Go.Proofs.Ytkmmiiaadoinpaa.Mar
open Go.RowKit Go.Proofs.Ytkmmiiaadoinpaa.Mem

theorem grow_zero (w : World) : Calls Try.prog 29 #[.slice none 0 0, .int .i64 0] w (Made dM 26 w []) := by
  go_enter Try.func29, Try.ntmps29
  go_wp2
  go_ret
  exact ⟨none, 0, rfl, En.Own.none_ _ _ _, Below.refl _ _⟩
theorem grow_pos (n : Nat) (w : World) (h0 : 0 < n) (hb : n * 24 ≤ 140737488355328) : Calls Try.prog 29 #[.slice none 0 0, .int .i64 n] w (Made dM 26 w []) := by
  obtain ⟨i0, hi, hz0, hz1, hz2⟩ := info_parts info26
  have hrz : ∀ ty, (Builtin.append_ #[23, 3] ty #[.slice none 0 0, .int .i64 (n : Int)]).run Try.prog w =
      .ok (.slice (some ⟨w.heap.size, 0, none⟩) n (grownCap w n 0 26)) (w.drew.alloc (.cells (([] : List Value).toArray ++ Builtin.zeroCells (Value.agg #[.int .i64 0, .int .i64 0, .int .i64 0]).cells n ++ Builtin.zeroCells (Value.agg #[.int .i64 0, .int .i64 0, .int .i64 0]).cells (grownCap w n 0 26 - n)) 26)) := fun ty => by
    have h := Lib.run_append_grow_zeros w 23 3 ty 26 i0 _ .i64 .i64 Try.underlying23 Try.underlying3 hi hz0 none 0 0 [] (by rw [hz1]; exact run_firstCells_none w.drew 3 0 0 0) n h0 (by omega) (by omega) (by omega)
      (by rw [hz2]; omega) (by rw [hz2]; exact growslice_fits (by omega) (by omega))
    simpa using h
  have hG := grownCap_ge w n 0 26
  have hG63 : grownCap w n 0 26 ≤ 9223372036854775807 := by
    have := grownCap_le_maxLen w n 0 26 (by unfold maxLen; omega)
    unfold maxLen at this
    omega
  generalize grownCap w n 0 26 = G at hrz hG hG63
  have HR : Hid (∀ (ty : TypeId), (Builtin.append_ #[23, 3] ty #[.slice none 0 0, .int .i64 (n : Int)]).run Try.prog w = _) := hrz
  clear hrz
  go_enter Try.func29, Try.ntmps29
  go_wp2_with (at_builtin; refine wpList_run_append _ rfl (.tmp 20) (.tmp 21) 23 3 rfl _ _ _ _ rfl rfl HR.out ?_)
  go_ret
  refine ⟨some ⟨w.heap.size, 0, none⟩, G, rfl, ?_, below_drewN ((Below.refl _ _).alloc (Nat.le_refl _) _) 1⟩
  show World.ownsRow (w.alloc _) _ _ _ _ _ _
  exact World.ownsRow_made w _ G (Nat.le_refl _) (by unfold maxLen; omega) (by
    show _ = G * 3
    rw [Array.size_append, size_zeroCells, size_zeroCells]
    show n * 3 + (G - n) * 3 = G * 3
    omega)
theorem grow_any (n : Nat) (w : World) (hb : n * 24 ≤ 140737488355328) : Calls Try.prog 29 #[.slice none 0 0, .int .i64 n] w (Made dM 26 w []) := by
  rcases Nat.eq_zero_or_pos n with h | h
  · subst h; exact grow_zero w
  · exact grow_pos n w h hb

def sumI (xs ys : List Mail) (k : Nat) : Int := if k = 0 then 0 else if k = 1 then xs.length else (xs.length : Int) + ys.length
def upTo (xs ys : List Mail) (k : Nat) : List Mail := if k = 0 then [] else if k = 1 then xs else xs ++ ys
theorem concat_len (B : Nat) (A1 A2 : Option Addr) (c1 c2 : Nat) (xs ys : List Mail) (w : World) (h1 : w.cell? ⟨B, 0, none⟩ = some (.slice A1 xs.length c1)) (h2 : w.cell? ⟨B, 1, none⟩ = some (.slice A2 ys.length c2))
    (hx : dM.At w A1 c1 xs) (hy : dM.At w A2 c2 ys) (hb : (xs.length + ys.length) * 24 ≤ 140737488355328) :
    Calls Try.prog 28 #[.slice (some ⟨B, 0, none⟩) 2 2] w (Made dM 26 w (xs ++ ys)) := by
  obtain ⟨i0, hi, hz0, hz1, hz2⟩ := info_parts info26
  have HX := Lib.hid hx
  have HY := Lib.hid hy
  clear hx hy
  go_enter Try.func28, Try.ntmps28
  go_wp2_with fail
  go_loop [3, 5, 11] (fun s v i => ∃ k : Nat, k ≤ 2 ∧ i = .int .i64 k ∧ s = .int .i64 (sumI xs ys k)) (fun _ _ i => 2 - (intOf i).toNat)
  case atStart => exact ⟨0, by omega, rfl, rfl⟩
  case round =>
    obtain ⟨k, hk, rfl, rfl⟩ := hrel
    have hc : k = 0 ∨ k = 1 ∨ k = 2 := by omega
    clear hk
    rcases hc with rfl | rfl | rfl
    · have e : sumI xs ys 0 = 0 := rfl
      rw [e]
      clear e
      go_wp2
      go_round
      case rel => exact ⟨1, by omega, rfl, rfl⟩
      case measure => simp [intOf]
    · have e : sumI xs ys 1 = xs.length := rfl
      rw [e]
      clear e
      go_wp2
      go_round
      case rel => exact ⟨2, by omega, rfl, rfl⟩
      case measure => simp [intOf]
    · have e : sumI xs ys 2 = ((xs.length + ys.length : Nat) : Int) := by simp [sumI]
      rw [e]
      clear e
      go_wp2_with (go_at_call 29; refine (grow_any (xs.length + ys.length) _ hb).mono ?_; rintro e w1 ⟨A, c, rfl, hown, hbel⟩)
      have hw1 : Hid (w1.cell? ⟨B, 0, none⟩ = some (.slice A1 xs.length c1)) := below_cell hbel h1
      have HO := Lib.hid hown
      have HB := Lib.hid hbel
      clear hown hbel hw1
      have H1 := Lib.hid h1
      have H2 := Lib.hid h2
      clear h1 h2
      go_loopw [6, 8, 27] (fun v t8 i wr => ∃ (k : Nat) (A : Option Addr) (c : Nat), k ≤ 2 ∧ i = .int .i64 k ∧ v = .slice A (upTo xs ys k).length c ∧ Hid (dM.Own 26 wr w.heap.size A c (upTo xs ys k)) ∧ Hid (Below w.heap.size w wr)) (fun _ _ i _ => 2 - (intOf i).toNat)
      case atStart => exact ⟨0, A, c, by omega, rfl, rfl, HO, HB⟩
      case round =>
        obtain ⟨k, A, c, hk, rfl, rfl, HO, HB⟩ := hrel
        have hc : k = 0 ∨ k = 1 ∨ k = 2 := by omega
        clear hk
        have g1 := below_cell HB.out H1.out
        have g2 := below_cell HB.out H2.out
        have hsz := HB.out.size
        rcases hc with rfl | rfl | rfl
        · have e : (upTo xs ys 0).length = 0 := rfl
          rw [e]
          clear e
          go_wp2_with (at_builtin; refine wpList_app dM _ rfl _ _ 23 rfl w.heap.size 26 i0 _ 24 Try.underlying23 hi hz0 hz1 hz2 rfl A c 0 (upTo xs ys 0) rfl rfl ?own A1 c1 xs.length xs rfl rfl ?at_ ?m1 ?m2 ?m3 ?_)
          case own => exact HO.out
          case at_ => exact HX.out.below HB.out
          case m1 => show 0 + xs.length ≤ _; omega
          case m2 => show (0 + xs.length) * 24 ≤ _; omega
          case m3 => exact hsz
          intro A' c' w' hown hg hat
          have HO' := Lib.hid hown
          have HG := Lib.hid hg
          clear hown hg hat
          go_wp2
          go_roundw
          case rel => exact ⟨1, A', c', by omega, rfl, slc (by simp [upTo]), HO', below_grown HB.out HG.out (fun k hk => (HO.out.row k hk).1)⟩
          case measure => simp [intOf]
        · have e : (upTo xs ys 1).length = xs.length := rfl
          rw [e]
          clear e
          go_wp2_with (at_builtin; refine wpList_app dM _ rfl _ _ 23 rfl w.heap.size 26 i0 _ 24 Try.underlying23 hi hz0 hz1 hz2 rfl A c xs.length (upTo xs ys 1) rfl rfl ?own A2 c2 ys.length ys rfl rfl ?at_ ?m1 ?m2 ?m3 ?_)
          case own => exact HO.out
          case at_ => exact HY.out.below HB.out
          case m1 => show xs.length + ys.length ≤ _; omega
          case m2 => show (xs.length + ys.length) * 24 ≤ _; omega
          case m3 => exact hsz
          intro A' c' w' hown hg hat
          have HO' := Lib.hid hown
          have HG := Lib.hid hg
          clear hown hg hat
          go_wp2
          go_roundw
          case rel => exact ⟨2, A', c', by omega, rfl, slc (by simp [upTo]), HO', below_grown HB.out HG.out (fun k hk => (HO.out.row k hk).1)⟩
          case measure => simp [intOf]
        · go_wp2
          go_ret
          exact ⟨A, c, rfl, HO.out, HB.out⟩
theorem concat_any (B : Nat) (A1 A2 : Option Addr) (c1 c2 n1 n2 : Nat) (xs ys : List Mail) (w : World) (e1 : n1 = xs.length) (e2 : n2 = ys.length) (h1 : w.cell? ⟨B, 0, none⟩ = some (.slice A1 n1 c1)) (h2 : w.cell? ⟨B, 1, none⟩ = some (.slice A2 n2 c2))
    (hx : dM.At w A1 c1 xs) (hy : dM.At w A2 c2 ys) (hb : (xs.length + ys.length) * 24 ≤ 140737488355328) :
    Calls Try.prog 28 #[.slice (some ⟨B, 0, none⟩) 2 2] w (Made dM 26 w (xs ++ ys)) := by
  subst e1
  subst e2
  exact concat_len B A1 A2 c1 c2 xs ys w h1 h2 hx hy hb
end Go.Proofs.Ytkmmiiaadoinpaa.Mar
