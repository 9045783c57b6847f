/- Contracts of the reference's Show, of pick and of awake. -/
import Derived.Test.YtkmmiiaadoinpaaMarH
namespace Go.Proofs.Ytkmmiiaadoinpaa.Mar
open Go.RowKit Go.Proofs.Ytkmmiiaadoinpaa.Mem

theorem refShow_out (A : Option Addr) (c : Nat) (xs : List Shown) (m : Mail) (w : World) (h : dS.At w A c xs) (hb : xs.length * 16 ≤ 140737488355328) (ho : m.s < 0 ∨ (0 ≤ m.s ∧ (xs.length : Int) ≤ m.s)) :
    Calls Try.prog 23 #[.slice A xs.length c, .agg #[.int .i64 m.s, .int .i64 m.v, .int .i64 m.p]] w (Made dS 44 w xs) := by
  obtain ⟨i0, hi, iz, isz, iby⟩ := info_parts info44
  have H := Lib.hid h
  have hle := h.le
  have hmax := h.max
  clear h
  rcases ho with hneg | ⟨hneg, hbig⟩
  · have g1 : decide (0 ≤ m.s) = false := decide_eq_false (by omega)
    go_enter Try.func23, Try.ntmps23
    go_wp2_with (at_builtin; refine wpList_app dS _ rfl _ _ 24 rfl (w.heap.size + 1) 44 i0 _ 16 Try.underlying24 hi iz isz iby rfl none 0 0 [] rfl rfl ?own A c xs.length xs rfl rfl ?at_ ?m1 ?m2 ?m3 ?_)
    case own => exact En.Own.none_ _ _ _
    case at_ => exact H.out.below (below_alloc (Below.refl _ _) _)
    case m1 => simp only [List.length_nil]; omega
    case m2 => simp only [List.length_nil]; omega
    case m3 => simp
    intro A1 c1 w1 hown hg hat
    have HB := Lib.hid (below_grown (below_alloc (Below.refl w.heap.size w) _) hg (fun k hk => by simp [Value.ownBlock] at hk))
    have q0 : w1.cell? ⟨w.heap.size, 0, none⟩ = some (.int .i64 m.s) := hg.cell (cell_new w _ _ _) (by simp [Value.ownBlock])
    have hsz : w.heap.size + 1 ≤ w1.heap.size := by have := hg.size; simpa using this
    have HO : Hid (dS.Own 44 w1 (w.heap.size + 1) A1 c1 xs) := hown
    clear hown hg hat
    go_wp2_with fail
    go_quiet (fail)
    go_wp2
    go_ret
    exact ⟨A1, c1, rfl, HO.out.lower (by simp), below_drewN HB.out _⟩
  · have g1 : decide (0 ≤ m.s) = true := decide_eq_true hneg
    have g2 : decide (m.s < (xs.length : Int)) = false := decide_eq_false (by omega)
    go_enter Try.func23, Try.ntmps23
    go_wp2_with (at_builtin; refine wpList_app dS _ rfl _ _ 24 rfl (w.heap.size + 1) 44 i0 _ 16 Try.underlying24 hi iz isz iby rfl none 0 0 [] rfl rfl ?own A c xs.length xs rfl rfl ?at_ ?m1 ?m2 ?m3 ?_)
    case own => exact En.Own.none_ _ _ _
    case at_ => exact H.out.below (below_alloc (Below.refl _ _) _)
    case m1 => simp only [List.length_nil]; omega
    case m2 => simp only [List.length_nil]; omega
    case m3 => simp
    intro A1 c1 w1 hown hg hat
    have HB := Lib.hid (below_grown (below_alloc (Below.refl w.heap.size w) _) hg (fun k hk => by simp [Value.ownBlock] at hk))
    have q0 : w1.cell? ⟨w.heap.size, 0, none⟩ = some (.int .i64 m.s) := hg.cell (cell_new w _ _ _) (by simp [Value.ownBlock])
    have hsz : w.heap.size + 1 ≤ w1.heap.size := by have := hg.size; simpa using this
    have HO : Hid (dS.Own 44 w1 (w.heap.size + 1) A1 c1 xs) := hown
    clear hown hg hat
    go_wp2_with fail
    go_quiet (fail)
    go_wp2
    go_ret
    exact ⟨A1, c1, rfl, HO.out.lower (by simp), below_drewN HB.out _⟩
theorem refShow_in (A : Option Addr) (c k : Nat) (xs : List Shown) (m : Mail) (w : World) (h : dS.At w A c xs) (hb : xs.length * 16 ≤ 140737488355328) (hs : m.s = k) (hk : k < xs.length) (x : Shown) (hx : xs[k]? = some x) :
    Calls Try.prog 23 #[.slice A xs.length c, .agg #[.int .i64 m.s, .int .i64 m.v, .int .i64 m.p]] w (Made dS 44 w (if x.v < m.v then xs.set k ⟨m.v, m.p⟩ else xs)) := by
  obtain ⟨i0, hi, iz, isz, iby⟩ := info_parts info44
  have H := Lib.hid h
  have hle := h.le
  have hmax := h.max
  clear h
  have HX := Lib.hid hx
  clear hx
  rw [hs]
  clear hs
  by_cases hv : x.v < m.v
  · rw [if_pos hv]
    have hv' : decide (x.v < m.v) = true := decide_eq_true hv
    go_enter Try.func23, Try.ntmps23
    go_wp2_with (at_builtin; refine wpList_app dS _ rfl _ _ 24 rfl (w.heap.size + 1) 44 i0 _ 16 Try.underlying24 hi iz isz iby rfl none 0 0 [] rfl rfl ?own A c xs.length xs rfl rfl ?at_ ?m1 ?m2 ?m3 ?_)
    case own => exact En.Own.none_ _ _ _
    case at_ => exact H.out.below (below_alloc (Below.refl _ _) _)
    case m1 => simp only [List.length_nil]; omega
    case m2 => simp only [List.length_nil]; omega
    case m3 => simp
    intro A1 c1 w1 hown hg hat
    have HB := Lib.hid (below_grown (below_alloc (Below.refl w.heap.size w) _) hg (fun k hk => by simp [Value.ownBlock] at hk))
    have q0 : w1.cell? ⟨w.heap.size, 0, none⟩ = some (.int .i64 k) := hg.cell (cell_new w _ _ _) (by simp [Value.ownBlock])
    have q1 : w1.cell? ⟨w.heap.size, 1, none⟩ = some (.int .i64 m.v) := hg.cell (cell_new w _ _ _) (by simp [Value.ownBlock])
    have q2 : w1.cell? ⟨w.heap.size, 2, none⟩ = some (.int .i64 m.p) := hg.cell (cell_new w _ _ _) (by simp [Value.ownBlock])
    obtain ⟨b, off, rfl, hbl, e0, e1⟩ := at_getS H.out k x HX.out
    have d0 : w1.cell? ⟨b, off + k * 2, none⟩ = some (.int .i64 x.v) := below_cell HB.out e0
    clear e0 e1
    have hsz : w.heap.size + 1 ≤ w1.heap.size := by have := hg.size; simpa using this
    have HO : Hid (dS.Own 44 w1 (w.heap.size + 1) A1 c1 xs) := hown
    clear hown hg hat
    obtain ⟨g, rfl, hge, hlt, r0, r1⟩ := own_getS HO.out k x HX.out
    have f0 := HO.out.free (k * 2)
    have f1 := HO.out.free (k * 2 + 1)
    have hge' : g ≠ w.heap.size := by omega
    go_wp2_with fail
    go_quiet (fail)
    go_wp2
    go_ret
    exact ⟨some ⟨g, 0, none⟩, c1, by simp, (own_setS (HO.out.drewN nq) k hk ⟨m.v, m.p⟩).lower (by simp), below_set (below_set (below_drewN HB.out _) (by simp; omega) _) (by simp; omega) _⟩
  · rw [if_neg hv]
    have hv' : decide (x.v < m.v) = false := decide_eq_false hv
    go_enter Try.func23, Try.ntmps23
    go_wp2_with (at_builtin; refine wpList_app dS _ rfl _ _ 24 rfl (w.heap.size + 1) 44 i0 _ 16 Try.underlying24 hi iz isz iby rfl none 0 0 [] rfl rfl ?own A c xs.length xs rfl rfl ?at_ ?m1 ?m2 ?m3 ?_)
    case own => exact En.Own.none_ _ _ _
    case at_ => exact H.out.below (below_alloc (Below.refl _ _) _)
    any_goals first | omega | (simp; done) | (simp; omega)
    intro A1 c1 w1 hown hg hat
    have HB := Lib.hid (below_grown (below_alloc (Below.refl w.heap.size w) _) hg (fun k hk => by simp [Value.ownBlock] at hk))
    have q0 : w1.cell? ⟨w.heap.size, 0, none⟩ = some (.int .i64 k) := hg.cell (cell_new w _ _ _) (by simp [Value.ownBlock])
    have q1 : w1.cell? ⟨w.heap.size, 1, none⟩ = some (.int .i64 m.v) := hg.cell (cell_new w _ _ _) (by simp [Value.ownBlock])
    have q2 : w1.cell? ⟨w.heap.size, 2, none⟩ = some (.int .i64 m.p) := hg.cell (cell_new w _ _ _) (by simp [Value.ownBlock])
    obtain ⟨b, off, rfl, hbl, e0, e1⟩ := at_getS H.out k x HX.out
    have d0 : w1.cell? ⟨b, off + k * 2, none⟩ = some (.int .i64 x.v) := below_cell HB.out e0
    clear e0 e1
    have hsz : w.heap.size + 1 ≤ w1.heap.size := by have := hg.size; simpa using this
    have HO : Hid (dS.Own 44 w1 (w.heap.size + 1) A1 c1 xs) := hown
    clear hown hg hat
    go_wp2_with fail
    go_quiet (fail)
    go_wp2
    go_ret
    exact ⟨A1, c1, rfl, (HO.out.drewN nq).lower (by simp), below_drewN HB.out _⟩
theorem refShow_any (A : Option Addr) (c : Nat) (xs : List Shown) (m : Mail) (w : World) (h : dS.At w A c xs) (hb : xs.length * 16 ≤ 140737488355328) :
    Calls Try.prog 23 #[.slice A xs.length c, .agg #[.int .i64 m.s, .int .i64 m.v, .int .i64 m.p]] w (Made dS 44 w (showL xs m)) := by
  by_cases hi : 0 ≤ m.s ∧ m.s < xs.length
  · obtain ⟨k, hs⟩ : ∃ k : Nat, m.s = k := ⟨m.s.toNat, by omega⟩
    have hk : k < xs.length := by omega
    have hx : xs[k]? = some xs[k] := List.getElem?_eq_getElem hk
    have e : showL xs m = if (xs[k]).v < m.v then xs.set k ⟨m.v, m.p⟩ else xs := by
      unfold showL
      rw [hs, Int.toNat_natCast, List.getD_eq_getElem?_getD, hx, Option.getD_some]
      by_cases hv : (xs[k]).v < m.v
      · rw [if_pos hv, if_pos ⟨by omega, by omega, hv⟩]
      · rw [if_neg hv, if_neg (fun h => hv h.2.2)]
    rw [e]
    exact refShow_in A c k xs m w h hb hs hk _ hx
  · rw [show showL xs m = xs from if_neg (fun h => hi ⟨h.1, h.2.1⟩)]
    exact refShow_out A c xs m w h hb (by omega)

def pickI (c n : Int) : Int := if c < 0 then (-(c + 1)) % n else c % n
theorem pick_neg (c n : Int) (hc : c < 0) : -((c + 1).tmod n) = (-(c + 1)) % n := by
  rw [← Int.neg_tmod, Int.tmod_eq_emod_of_nonneg (by omega)]
theorem pick_any (c n : Int) (w : World) (h : -9223372036854775808 ≤ c) (h' : c ≤ 9223372036854775807) (hn : 0 < n) : Calls Try.prog 14 #[.int .i64 c, .int .i64 n] w fun e w' => e = .returned (.int .i64 (pickI c n)) ∧ w' = w := by
  by_cases hc : c < 0
  · rw [show pickI c n = (-(c + 1)) % n from if_pos hc]
    go_enter Try.func14, Try.ntmps14
    go_wp2
    go_ret
    exact ⟨ret1 (pick_neg c n hc), rfl⟩
  · rw [show pickI c n = c % n from if_neg hc]
    go_enter Try.func14, Try.ntmps14
    go_wp2
    go_ret
    exact ⟨rfl, rfl⟩
theorem pick_bd (c n : Int) (hn : 0 < n) : 0 ≤ pickI c n ∧ pickI c n < n := by
  unfold pickI
  split
  · exact ⟨Int.emod_nonneg _ (by omega), Int.emod_lt_of_pos _ hn⟩
  · exact ⟨Int.emod_nonneg _ (by omega), Int.emod_lt_of_pos _ hn⟩
end Go.Proofs.Ytkmmiiaadoinpaa.Mar
