/- Contracts of the reference's Show and of the two comparisons; pick. -/
import Derived.Test.YtkmmiiaadoinpaaMarG
namespace Go.Proofs.Ytkmmiiaadoinpaa.Mar
open Go.RowKit Go.Proofs.Ytkmmiiaadoinpaa.Mem

deriving instance DecidableEq for Mail
deriving instance DecidableEq for Shown

theorem at_getM {w : World} {A : Option Addr} {c : Nat} {xs : List Mail} (h : dM.At w A c xs) (k : Nat) (x : Mail) (hx : xs[k]? = some x) :
    ∃ b off, A = some ⟨b, off, none⟩ ∧ b < w.heap.size ∧ w.cell? ⟨b, off + k * 3, none⟩ = some (.int .i64 x.s) ∧ w.cell? ⟨b, off + k * 3 + 1, none⟩ = some (.int .i64 x.v) ∧ w.cell? ⟨b, off + k * 3 + 2, none⟩ = some (.int .i64 x.p) := by
  obtain ⟨b, off, hA, hlt, hc⟩ := h.get k x hx
  exact ⟨b, off, hA, hlt, hc 0 (by decide), hc 1 (by decide), hc 2 (by decide)⟩
theorem take_more {α : Type} {xs ys : List α} {k : Nat} {x : α} (h : xs.take k = ys.take k) (hx : xs[k]? = some x) (hy : ys[k]? = some x) : xs.take (k + 1) = ys.take (k + 1) := by
  rw [take_snoc xs k x hx, take_snoc ys k x hy, h]


theorem eqA26 (w : World) (a b c a' b' c' : Int) : (Op.equalIn 10000 26 (.agg #[.int .i64 a, .int .i64 b, .int .i64 c]) (.agg #[.int .i64 a', .int .i64 b', .int .i64 c'])).run Try.prog w = .ok (decide (a = a' ∧ b = b' ∧ c = c')) w := by
  have hS : Try.prog.underlying 26 = some (.struct (Try.prog.fieldsOf 26)) := by kernel_rfl
  have hp : Try.prog.stoodInHeld 26 = false := by kernel_rfl
  rw [show (10000 : Nat) = 9999 + 1 from rfl, run_equalIn_agg w 9999 26 _ _ hS hp]
  simp only [Program.fieldsOf, Try.underlying26]
  go_simp
  by_cases h1 : a = a' <;> by_cases h2 : b = b' <;> by_cases h3 : c = c' <;> simp [h1, h2, h3]
theorem eqA44 (w : World) (a b a' b' : Int) : (Op.equalIn 10000 44 (.agg #[.int .i64 a, .int .i64 b]) (.agg #[.int .i64 a', .int .i64 b'])).run Try.prog w = .ok (decide (a = a' ∧ b = b')) w := by
  have hS : Try.prog.underlying 44 = some (.struct (Try.prog.fieldsOf 44)) := by kernel_rfl
  have hp : Try.prog.stoodInHeld 44 = false := by kernel_rfl
  rw [show (10000 : Nat) = 9999 + 1 from rfl, run_equalIn_agg w 9999 44 _ _ hS hp]
  simp only [Program.fieldsOf, Try.underlying44]
  go_simp
  by_cases h1 : a = a' <;> by_cases h2 : b = b' <;> simp [h1, h2]
theorem mail_ne {x y : Mail} (h : x ≠ y) : decide (x.s = y.s ∧ x.v = y.v ∧ x.p = y.p) = false := decide_eq_false fun ⟨h1, h2, h3⟩ => h (by cases x; cases y; simp_all)
theorem shown_ne {x y : Shown} (h : x ≠ y) : decide (x.v = y.v ∧ x.p = y.p) = false := decide_eq_false fun ⟨h1, h2⟩ => h (by cases x; cases y; simp_all)

theorem same_any (A B : Option Addr) (c k : Nat) (xs ys : List Mail) (w : World) (hx : dM.At w A c xs) (hy : dM.At w B k ys) :
    Calls Try.prog 13 #[.slice A xs.length c, .slice B ys.length k] w fun e w' => e = .returned (.bool (decide (xs = ys))) ∧ ∃ m, w' = w.drewN m := by
  have HX := Lib.hid hx
  have HY := Lib.hid hy
  have l1 := hx.le
  have l2 := hx.max
  have l3 := hy.le
  have l4 := hy.max
  clear hx hy
  by_cases hl : xs.length = ys.length
  · have g1 : ((xs.length : Int) != (ys.length : Int)) = false := by simp [hl]
    go_enter Try.func13, Try.ntmps13
    go_wp2
    go_loopw [5] (fun kk wr => ∃ (k m : Nat), k ≤ xs.length ∧ kk = .int .i64 k ∧ wr = w.drewN m ∧ Hid (xs.take k = ys.take k)) (fun kk _ => xs.length - (intOf kk).toNat)
    case atStart => exact ⟨0, 0, Nat.zero_le _, rfl, rfl, rfl⟩
    case round =>
      obtain ⟨k, m, hk, rfl, rfl, HE⟩ := hrel
      by_cases hlt : k < xs.length
      · have hx : xs[k]? = some xs[k] := List.getElem?_eq_getElem hlt
        have hy : ys[k]? = some (ys[k]'(by omega)) := List.getElem?_eq_getElem (by omega)
        obtain ⟨b, off, rfl, hb, c0, c1, c2⟩ := at_getM HX.out k _ hx
        obtain ⟨b', off', rfl, hb', d0, d1, d2⟩ := at_getM HY.out k _ hy
        generalize xs[k] = x at c0 c1 c2 hx
        generalize ys[k]'(by omega) = y at d0 d1 d2 hy
        have hk2 : k < ys.length := by omega
        have HXk := Lib.hid hx
        have HYk := Lib.hid hy
        clear hx hy
        have HL := Lib.hid hl
        clear hl
        by_cases e : x = y
        · subst e
          go_wp2_with fail
          go_quiet (fail)
          go_wp2
          go_roundw
          case rel => exact ⟨k + 1, m + nq, by omega, by go_num, by go_simp, take_more HE HXk.out HYk.out⟩
          case measure => simp [intOf]; omega
        · have hq : ∀ W, (Op.equalIn 10000 26 (.agg #[.int .i64 x.s, .int .i64 x.v, .int .i64 x.p]) (.agg #[.int .i64 y.s, .int .i64 y.v, .int .i64 y.p])).run Try.prog W = .ok false W := fun W => by rw [eqA26, mail_ne e]
          go_wp2_with fail
          go_quiet (fail)
          go_wp2
          go_ret
          refine ⟨?_, _, World.drewN_drewN _ _ _⟩
          rw [decide_eq_false (fun h => e (Option.some.inj (by rw [← HXk.out, ← HYk.out, h])))]; rfl
      · have hkl : k = xs.length := by omega
        subst hkl
        have e : xs = ys := by
          have h1 : xs.take xs.length = ys.take xs.length := HE
          rwa [List.take_length, hl, List.take_length] at h1
        go_wp2
        go_ret
        exact ⟨by rw [decide_eq_true e]; rfl, _, rfl⟩
  · have g1 : ((xs.length : Int) != (ys.length : Int)) = true := by simp; omega
    rw [decide_eq_false (fun e => hl (by rw [e]))]
    go_enter Try.func13, Try.ntmps13
    go_wp2
    go_ret
    exact ⟨rfl, 0, rfl⟩
theorem sameS_any (A B : Option Addr) (c k : Nat) (xs ys : List Shown) (w : World) (hx : dS.At w A c xs) (hy : dS.At w B k ys) :
    Calls Try.prog 21 #[.slice A xs.length c, .slice B ys.length k] w fun e w' => e = .returned (.bool (decide (xs = ys))) ∧ ∃ m, w' = w.drewN m := by
  have HX := Lib.hid hx
  have HY := Lib.hid hy
  have l1 := hx.le
  have l2 := hx.max
  have l3 := hy.le
  have l4 := hy.max
  clear hx hy
  by_cases hl : xs.length = ys.length
  · have g1 : ((xs.length : Int) != (ys.length : Int)) = false := by simp [hl]
    go_enter Try.func21, Try.ntmps21
    go_wp2
    go_loopw [5] (fun kk wr => ∃ (k m : Nat), k ≤ xs.length ∧ kk = .int .i64 k ∧ wr = w.drewN m ∧ Hid (xs.take k = ys.take k)) (fun kk _ => xs.length - (intOf kk).toNat)
    case atStart => exact ⟨0, 0, Nat.zero_le _, rfl, rfl, rfl⟩
    case round =>
      obtain ⟨k, m, hk, rfl, rfl, HE⟩ := hrel
      by_cases hlt : k < xs.length
      · have hx : xs[k]? = some xs[k] := List.getElem?_eq_getElem hlt
        have hy : ys[k]? = some (ys[k]'(by omega)) := List.getElem?_eq_getElem (by omega)
        obtain ⟨b, off, rfl, hb, c0, c1⟩ := at_getS HX.out k _ hx
        obtain ⟨b', off', rfl, hb', d0, d1⟩ := at_getS HY.out k _ hy
        generalize xs[k] = x at c0 c1 hx
        generalize ys[k]'(by omega) = y at d0 d1 hy
        have hk2 : k < ys.length := by omega
        have HXk := Lib.hid hx
        have HYk := Lib.hid hy
        clear hx hy
        have HL := Lib.hid hl
        clear hl
        by_cases e : x = y
        · subst e
          go_wp2_with fail
          go_quiet (fail)
          go_wp2
          go_roundw
          case rel => exact ⟨k + 1, m + nq, by omega, by go_num, by go_simp, take_more HE HXk.out HYk.out⟩
          case measure => simp [intOf]; omega
        · have hq : ∀ W, (Op.equalIn 10000 44 (.agg #[.int .i64 x.v, .int .i64 x.p]) (.agg #[.int .i64 y.v, .int .i64 y.p])).run Try.prog W = .ok false W := fun W => by rw [eqA44, shown_ne e]
          go_wp2_with fail
          go_quiet (fail)
          go_wp2
          go_ret
          refine ⟨?_, _, World.drewN_drewN _ _ _⟩
          rw [decide_eq_false (fun h => e (Option.some.inj (by rw [← HXk.out, ← HYk.out, h])))]; rfl
      · have hkl : k = xs.length := by omega
        subst hkl
        have e : xs = ys := by
          have h1 : xs.take xs.length = ys.take xs.length := HE
          rwa [List.take_length, hl, List.take_length] at h1
        go_wp2
        go_ret
        exact ⟨by rw [decide_eq_true e]; rfl, _, rfl⟩
  · have g1 : ((xs.length : Int) != (ys.length : Int)) = true := by simp; omega
    rw [decide_eq_false (fun e => hl (by rw [e]))]
    go_enter Try.func21, Try.ntmps21
    go_wp2
    go_ret
    exact ⟨rfl, 0, rfl⟩
end Go.Proofs.Ytkmmiiaadoinpaa.Mar
