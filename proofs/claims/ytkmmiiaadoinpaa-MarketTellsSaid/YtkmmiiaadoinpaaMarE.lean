/- Contracts of Show, and of the reference's functions. -/
import Derived.Test.YtkmmiiaadoinpaaMarD
namespace Go.Proofs.Ytkmmiiaadoinpaa.Mar
open Go.RowKit Go.Proofs.Ytkmmiiaadoinpaa.Mem

theorem dS_set (xs : List Shown) (k : Nat) (hk : k < xs.length) (x : Shown) : ((dS.cs xs).set (k * 2) (.int .i64 x.v)).set (k * 2 + 1) (.int .i64 x.p) = dS.cs (xs.set k x) := by
  refine dS.cs_ext _ _ (by rw [List.length_set, List.length_set, dS.cs_length, List.length_set]) fun q y hy j hj => ?_
  have hj2 : j < 2 := hj
  have hl : (dS.cs xs).length = xs.length * 2 := dS.cs_length xs
  rw [List.getElem?_set, List.getElem?_set]
  simp only [List.length_set, hl]
  have hsz : dS.sz = 2 := rfl
  rw [hsz]
  by_cases hq : k = q
  · subst hq
    have e : y = x := by
      rw [List.getElem?_set_self hk] at hy
      exact (Option.some.inj hy).symm
    subst e
    match j, hj2 with
    | 0, _ => rw [if_neg (by omega), if_pos (by omega), if_pos (by omega)]; rfl
    | 1, _ => rw [if_pos rfl, if_pos (by omega)]; rfl
  · rw [List.getElem?_set_ne hq] at hy
    rw [if_neg (by omega), if_neg (by omega)]
    exact dS.cs_get xs q y hy j hj
theorem at_getS {w : World} {A : Option Addr} {c : Nat} {xs : List Shown} (h : dS.At w A c xs) (k : Nat) (x : Shown) (hx : xs[k]? = some x) :
    ∃ b off, A = some ⟨b, off, none⟩ ∧ b < w.heap.size ∧ w.cell? ⟨b, off + k * 2, none⟩ = some (.int .i64 x.v) ∧ w.cell? ⟨b, off + k * 2 + 1, none⟩ = some (.int .i64 x.p) := by
  obtain ⟨b, off, hA, hlt, hc⟩ := h.get k x hx
  exact ⟨b, off, hA, hlt, hc 0 (by decide), hc 1 (by decide)⟩
theorem own_getS {w : World} {base : Nat} {A : Option Addr} {c : Nat} {xs : List Shown} (h : dS.Own 44 w base A c xs) (k : Nat) (x : Shown) (hx : xs[k]? = some x) :
    ∃ g, A = some ⟨g, 0, none⟩ ∧ base ≤ g ∧ g < w.heap.size ∧ w.cell? ⟨g, k * 2, none⟩ = some (.int .i64 x.v) ∧ w.cell? ⟨g, k * 2 + 1, none⟩ = some (.int .i64 x.p) := by
  obtain ⟨g, off, rfl, hlt, h0, h1⟩ := at_getS h.at_ k x hx
  obtain ⟨rfl, hge, _⟩ := own_at0 h
  rw [Nat.zero_add] at h0 h1
  exact ⟨g, rfl, hge, hlt, h0, h1⟩
theorem own_setS {w : World} {base g c : Nat} {xs : List Shown} (h : dS.Own 44 w base (some ⟨g, 0, none⟩) c xs) (k : Nat) (hk : k < xs.length) (x : Shown) :
    dS.Own 44 ((w.setCell ⟨g, k * 2, none⟩ (.int .i64 x.v)).setCell ⟨g, k * 2 + 1, none⟩ (.int .i64 x.p)) base (some ⟨g, 0, none⟩) c (xs.set k x) := by
  have h1 := (World.ownsRow.stored h (k * 2) (.int .i64 x.v)).1
  have h2 := (World.ownsRow.stored h1 (k * 2 + 1) (.int .i64 x.p)).1
  unfold En.Own
  rw [List.length_set, ← dS_set xs k hk x]
  exact h2

def showL (xs : List Shown) (m : Mail) : List Shown := if 0 ≤ m.s ∧ m.s < xs.length ∧ (xs.getD m.s.toNat ⟨0, 0⟩).v < m.v then xs.set m.s.toNat ⟨m.v, m.p⟩ else xs

theorem show_out (A : Option Addr) (c : Nat) (xs : List Shown) (m : Mail) (w : World) (h : dS.At w A c xs) (hb : xs.length * 16 ≤ 140737488355328) (ho : m.s < 0 ∨ (0 ≤ m.s ∧ (xs.length : Int) ≤ m.s)) :
    Calls Try.prog 22 #[.slice A xs.length c, .agg #[.int .i64 m.s, .int .i64 m.v, .int .i64 m.p]] w (Made dS 44 w xs) := by
  have H := Lib.hid h
  clear h
  rcases ho with hneg | ⟨hneg, hbig⟩
  · have g1 : decide (0 ≤ m.s) = false := decide_eq_false (by omega)
    go_enter Try.func22, Try.ntmps22
    go_wp2_with (go_at_call 27; refine (cloneS_any _ _ _ _ (H.out.below (below_alloc (Below.refl _ _) _)) hb).mono ?_; rintro e w1 ⟨A1, c1, rfl, hown, hbel⟩; have q0 : w1.cell? ⟨w.heap.size, 0, none⟩ = some (.int .i64 m.s) := below_cell hbel (cell_new w _ _ _); have HO := Lib.hid hown; have HB := Lib.hid (below_step (below_alloc (Below.refl _ _) _) hbel); clear hown hbel)
    go_quiet (fail)
    go_wp2
    go_ret
    exact ⟨A1, c1, rfl, HO.out.lower (by simp), below_drewN HB.out _⟩
  · have g1 : decide (0 ≤ m.s) = true := decide_eq_true hneg
    have g2 : decide (m.s < (xs.length : Int)) = false := decide_eq_false (by omega)
    go_enter Try.func22, Try.ntmps22
    go_wp2_with (go_at_call 27; refine (cloneS_any _ _ _ _ (H.out.below (below_alloc (Below.refl _ _) _)) hb).mono ?_; rintro e w1 ⟨A1, c1, rfl, hown, hbel⟩; have q0 : w1.cell? ⟨w.heap.size, 0, none⟩ = some (.int .i64 m.s) := below_cell hbel (cell_new w _ _ _); have HO := Lib.hid hown; have HB := Lib.hid (below_step (below_alloc (Below.refl _ _) _) hbel); clear hown hbel)
    go_quiet (fail)
    go_wp2
    go_ret
    exact ⟨A1, c1, rfl, HO.out.lower (by simp), below_drewN HB.out _⟩
theorem show_in (A : Option Addr) (c k : Nat) (xs : List Shown) (m : Mail) (w : World) (h : dS.At w A c xs) (hb : xs.length * 16 ≤ 140737488355328) (hs : m.s = k) (hk : k < xs.length) (x : Shown) (hx : xs[k]? = some x) :
    Calls Try.prog 22 #[.slice A xs.length c, .agg #[.int .i64 m.s, .int .i64 m.v, .int .i64 m.p]] w (Made dS 44 w (if x.v < m.v then xs.set k ⟨m.v, m.p⟩ else xs)) := by
  have H := Lib.hid h
  clear h
  have HX := Lib.hid hx
  clear hx
  rw [hs]
  clear hs
  by_cases hv : x.v < m.v
  · rw [if_pos hv]
    go_enter Try.func22, Try.ntmps22
    go_wp2_with (go_at_call 27; refine (cloneS_any _ _ _ _ (H.out.below (below_alloc (Below.refl _ _) _)) hb).mono ?_; rintro e w1 ⟨A1, c1, rfl, hown, hbel⟩; have q0 : w1.cell? ⟨w.heap.size, 0, none⟩ = some (.int .i64 k) := below_cell hbel (cell_new w _ _ _); have q1 : w1.cell? ⟨w.heap.size, 1, none⟩ = some (.int .i64 m.v) := below_cell hbel (cell_new w _ _ _); have q2 : w1.cell? ⟨w.heap.size, 2, none⟩ = some (.int .i64 m.p) := below_cell hbel (cell_new w _ _ _); have HO := Lib.hid hown; have HB := Lib.hid (below_step (below_alloc (Below.refl _ _) _) hbel); clear hown hbel)
    obtain ⟨g, rfl, hge, hlt, r0, r1⟩ := own_getS HO.out k x HX.out
    have f0 := HO.out.free (k * 2)
    have f1 := HO.out.free (k * 2 + 1)
    have hge' : g ≠ w.heap.size := by simp at hge; omega
    go_quiet (fail)
    go_wp2
    go_ret
    exact ⟨some ⟨g, 0, none⟩, c1, by simp, (own_setS (HO.out.drewN nq) k hk ⟨m.v, m.p⟩).lower (by simp), below_set (below_set (below_drewN HB.out _) (by simp at hge ⊢; omega) _) (by simp at hge ⊢; omega) _⟩
  · rw [if_neg hv]
    have hv' : decide (x.v < m.v) = false := decide_eq_false hv
    go_enter Try.func22, Try.ntmps22
    go_wp2_with (go_at_call 27; refine (cloneS_any _ _ _ _ (H.out.below (below_alloc (Below.refl _ _) _)) hb).mono ?_; rintro e w1 ⟨A1, c1, rfl, hown, hbel⟩; have q0 : w1.cell? ⟨w.heap.size, 0, none⟩ = some (.int .i64 k) := below_cell hbel (cell_new w _ _ _); have q1 : w1.cell? ⟨w.heap.size, 1, none⟩ = some (.int .i64 m.v) := below_cell hbel (cell_new w _ _ _); have q2 : w1.cell? ⟨w.heap.size, 2, none⟩ = some (.int .i64 m.p) := below_cell hbel (cell_new w _ _ _); have HO := Lib.hid hown; have HB := Lib.hid (below_step (below_alloc (Below.refl _ _) _) hbel); clear hown hbel)
    obtain ⟨g, rfl, hge, hlt, r0, r1⟩ := own_getS HO.out k x HX.out
    have f0 := HO.out.free (k * 2)
    have f1 := HO.out.free (k * 2 + 1)
    have hge' : g ≠ w.heap.size := by simp at hge; omega
    go_quiet (fail)
    go_wp2
    go_ret
    exact ⟨some ⟨g, 0, none⟩, c1, rfl, (HO.out.drewN nq).lower (by simp), below_drewN HB.out _⟩
theorem show_any (A : Option Addr) (c : Nat) (xs : List Shown) (m : Mail) (w : World) (h : dS.At w A c xs) (hb : xs.length * 16 ≤ 140737488355328) :
    Calls Try.prog 22 #[.slice A xs.length c, .agg #[.int .i64 m.s, .int .i64 m.v, .int .i64 m.p]] w (Made dS 44 w (showL xs m)) := by
  by_cases hi : 0 ≤ m.s ∧ m.s < xs.length
  · obtain ⟨k, hs⟩ : ∃ k : Nat, m.s = k := ⟨m.s.toNat, by omega⟩
    have hk : k < xs.length := by omega
    have hx : xs[k]? = some xs[k] := List.getElem?_eq_getElem hk
    have e : showL xs m = if (xs[k]).v < m.v then xs.set k ⟨m.v, m.p⟩ else xs := by
      unfold showL
      rw [hs, Int.toNat_natCast, List.getD_eq_getElem?_getD, hx, Option.getD_some]
      by_cases hv : (xs[k]).v < m.v
      · rw [if_pos hv, if_pos ⟨by omega, by omega, hv⟩]
      · rw [if_neg hv, if_neg (fun h => hv h.2.2)]
    rw [e]
    exact show_in A c k xs m w h hb hs hk _ hx
  · rw [show showL xs m = xs from if_neg (fun h => hi ⟨h.1, h.2.1⟩)]
    exact show_out A c xs m w h hb (by omega)
end Go.Proofs.Ytkmmiiaadoinpaa.Mar
