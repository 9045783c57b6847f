/- Contracts of the market's inner functions: Clone, Grow, Concat, Post, without. -/
import Derived.Test.YtkmmiiaadoinpaaMem
import Derived.WalkSpells
import Derived.WalkLawsBesides
import Derived.Outline
import Derived.Deep.QuietTactic
import Derived.BigQuiet
import Derived.Deep.RegionHeld3
import Derived.Deep.LoopGhost
import Derived.Deep.DeepCutAuto
import Derived.KernelRfl
import Derived.Lib.Hide
namespace Go.Proofs.Ytkmmiiaadoinpaa.Mar
open Go.RowKit Go.Proofs.Ytkmmiiaadoinpaa.Mem

structure Mail where
  s : Int
  v : Int
  p : Int
structure Shown where
  v : Int
  p : Int
def dM : En Mail := ⟨fun m => [.int .i64 m.s, .int .i64 m.v, .int .i64 m.p], 3, by omega, fun _ => rfl, fun x u hu => by simp at hu; rcases hu with rfl | rfl | rfl <;> rfl⟩
def dS : En Shown := ⟨fun m => [.int .i64 m.v, .int .i64 m.p], 2, by omega, fun _ => rfl, fun x u hu => by simp at hu; rcases hu with rfl | rfl <;> rfl⟩
def Made {α : Type} (d : En α) (e : TypeId) (w : World) (xs : List α) (r : Ending) (w' : World) : Prop := ∃ A c, r = .returned (.slice A xs.length c) ∧ d.Own e w' w.heap.size A c xs ∧ Below w.heap.size w w'

theorem info26 : (Try.prog.info? 26).map (fun i => (i.zero, i.size, i.bytes)) = some (some (.agg #[.int .i64 0, .int .i64 0, .int .i64 0]), 3, 24) := by kernel_rfl
theorem info44 : (Try.prog.info? 44).map (fun i => (i.zero, i.size, i.bytes)) = some (some (.agg #[.int .i64 0, .int .i64 0]), 2, 16) := by kernel_rfl


theorem cloneM_nil (w : World) : Calls Try.prog 24 #[.slice none 0 0] w (Made dM 26 w []) := by
  have heq := fun W a n c => Lib.run_eql_slice_nil (P := Try.prog) W 23 26 a n c 0 0 Try.underlying23
  go_enter Try.func24, Try.ntmps24
  go_wp2
  go_ret
  exact ⟨none, 0, rfl, En.Own.none_ _ _ _, Below.refl _ _⟩
theorem cloneM_some (a : Addr) (c : Nat) (xs : List Mail) (w : World) (h : dM.At w (some a) c xs) (hb : xs.length * 24 ≤ 140737488355328) : Calls Try.prog 24 #[.slice (some a) xs.length c] w (Made dM 26 w xs) := by
  obtain ⟨i0, hi, hz0, hz1, hz2⟩ := info_parts info26
  have heq := fun W a n c => Lib.run_eql_slice_nil (P := Try.prog) W 23 26 a n c 0 0 Try.underlying23
  have H := Lib.hid h
  clear h
  have hbel : Hid (Below w.heap.size w (w.alloc (.cells #[] 26))) := (Below.refl _ _).alloc (Nat.le_refl _) _
  go_enter Try.func24, Try.ntmps24
  go_wp2_with (at_builtin; refine wpList_app dM _ rfl _ _ 23 rfl w.heap.size 26 i0 _ 24 Try.underlying23 hi hz0 hz1 hz2 rfl (some ⟨w.heap.size, 0, none⟩) 0 0 [] rfl rfl ?own (some a) c xs.length xs rfl rfl ?at_ ?m1 ?m2 ?m3 ?_)
  case own => exact En.Own.lit dM w w.heap.size 26 #[] [] (Nat.le_refl _) (Nat.zero_le _) rfl
  case at_ => exact H.out.below hbel.out
  case m1 => simp only [List.length_nil]; omega
  case m2 => simp only [List.length_nil]; omega
  case m3 => simp
  intro A' c' w' hown hg hat
  have HO := Lib.hid hown
  have HG := Lib.hid hg
  clear hown hg hat
  go_wp2
  go_ret
  exact ⟨A', c', rfl, HO.out, hbel.out.grown HG.out (by simp) (fun k hk => by simp [Value.ownBlock] at hk; omega)⟩
theorem cloneM_any (A : Option Addr) (c : Nat) (xs : List Mail) (w : World) (h : dM.At w A c xs) (hb : xs.length * 24 ≤ 140737488355328) : Calls Try.prog 24 #[.slice A xs.length c] w (Made dM 26 w xs) := by
  cases A with
  | none =>
    have hc := h.nil rfl
    subst hc
    have hx : xs = [] := List.eq_nil_of_length_eq_zero (Nat.le_zero.1 h.le)
    subst hx
    exact cloneM_nil w
  | some a => exact cloneM_some a c xs w h hb

theorem cloneS_nil (w : World) : Calls Try.prog 27 #[.slice none 0 0] w (Made dS 44 w []) := by
  have heq := fun W a n c => Lib.run_eql_slice_nil (P := Try.prog) W 24 44 a n c 0 0 Try.underlying24
  go_enter Try.func27, Try.ntmps27
  go_wp2
  go_ret
  exact ⟨none, 0, rfl, En.Own.none_ _ _ _, Below.refl _ _⟩
theorem cloneS_some (a : Addr) (c : Nat) (xs : List Shown) (w : World) (h : dS.At w (some a) c xs) (hb : xs.length * 16 ≤ 140737488355328) : Calls Try.prog 27 #[.slice (some a) xs.length c] w (Made dS 44 w xs) := by
  obtain ⟨i0, hi, hz0, hz1, hz2⟩ := info_parts info44
  have heq := fun W a n c => Lib.run_eql_slice_nil (P := Try.prog) W 24 44 a n c 0 0 Try.underlying24
  have H := Lib.hid h
  clear h
  have hbel : Hid (Below w.heap.size w (w.alloc (.cells #[] 44))) := (Below.refl _ _).alloc (Nat.le_refl _) _
  go_enter Try.func27, Try.ntmps27
  go_wp2_with (at_builtin; refine wpList_app dS _ rfl _ _ 24 rfl w.heap.size 44 i0 _ 16 Try.underlying24 hi hz0 hz1 hz2 rfl (some ⟨w.heap.size, 0, none⟩) 0 0 [] rfl rfl ?own (some a) c xs.length xs rfl rfl ?at_ ?m1 ?m2 ?m3 ?_)
  case own => exact En.Own.lit dS w w.heap.size 44 #[] [] (Nat.le_refl _) (Nat.zero_le _) rfl
  case at_ => exact H.out.below hbel.out
  case m1 => simp only [List.length_nil]; omega
  case m2 => simp only [List.length_nil]; omega
  case m3 => simp
  intro A' c' w' hown hg hat
  have HO := Lib.hid hown
  have HG := Lib.hid hg
  clear hown hg hat
  go_wp2
  go_ret
  exact ⟨A', c', rfl, HO.out, hbel.out.grown HG.out (by simp) (fun k hk => by simp [Value.ownBlock] at hk; omega)⟩
theorem cloneS_any (A : Option Addr) (c : Nat) (xs : List Shown) (w : World) (h : dS.At w A c xs) (hb : xs.length * 16 ≤ 140737488355328) : Calls Try.prog 27 #[.slice A xs.length c] w (Made dS 44 w xs) := by
  cases A with
  | none =>
    have hc := h.nil rfl
    subst hc
    have hx : xs = [] := List.eq_nil_of_length_eq_zero (Nat.le_zero.1 h.le)
    subst hx
    exact cloneS_nil w
  | some a => exact cloneS_some a c xs w h hb

end Go.Proofs.Ytkmmiiaadoinpaa.Mar
