/- MarketOrder: its walk. -/
import Derived.Test.YtkmmiiaadoinpaaMarN
namespace Go.Proofs.Ytkmmiiaadoinpaa.Mar
open Go.RowKit Go.Proofs.Ytkmmiiaadoinpaa.Mem

theorem show3' (A : Option Addr) (c : Nat) (S T : List Shown) (m : Mail) (hT : showL S m = T) (hS : S.length = 3) (W : World) (h : dS.At W A c S) : Calls Try.prog 22 #[.slice A 3 c, .agg #[.int .i64 m.s, .int .i64 m.v, .int .i64 m.p]] W (Is dS 44 W T 3) := by
  subst hT; exact show3 A c S m W hS h

set_option maxRecDepth 100000 in
set_option maxHeartbeats 4000000 in
theorem order_any (A : Option Addr) (c : Nat) (rs : List Mail) (at_ : Int) (w : World) (h : dM.At w A c rs) (hr : ∀ r ∈ rs, R64 r) (b0 : -9223372036854775808 ≤ at_ ∧ at_ ≤ 9223372036854775807) :
    Calls Try.prog 6 #[.slice A rs.length c, .int .i64 at_] w fun e w' => e = .returned (.bool true) ∧ Below w.heap.size w w' := by
  have H := Lib.hid h
  have HC := Lib.hid (fun W hW => mails_any A c rs W hW hr)
  have hml := mailsL_len rs
  have hsm := Lib.hid (mails_small rs)
  generalize mailsL rs = xs at HC hml hsm
  clear h hr
  have P0 : Pick at_ ((xs.length : Int) + 1) (pickI at_ ((xs.length : Int) + 1)) := ⟨b0, by omega, rfl⟩
  have d0 := pick_bd at_ ((xs.length : Int) + 1) (by omega)
  generalize pickI at_ ((xs.length : Int) + 1) = y0 at P0 d0
  obtain ⟨r, rfl⟩ : ∃ r : Nat, y0 = r := ⟨y0.toNat, by omega⟩
  have hr1 : r ≤ xs.length := by omega
  clear b0 d0
  have hmk := mk3
  go_enter Try.func6, Try.ntmps6
  go_wp2_with (first
    | (go_at_call 14; refine (pick_of _ (by assumption)).mono ?_; rintro e w' ⟨rfl, rfl⟩)
    | (go_at_call 10; refine (HC.out _ (H.out.below B1.out)).mono ?_; rintro e w2 ⟨A2, c2, rfl, o2, b2⟩; have O2 := Lib.hid o2; have B2 := Lib.hid b2; clear o2 b2)
    | (go_at_call 9; refine (awake_any _).mono ?_; rintro e w1 ⟨rfl, b1⟩; have B1 := Lib.hid b1; clear b1))
  go_loopw [8, 9, 10] (fun v u kk wr => ∃ (k : Nat) (A3 A4 : Option Addr) (c3 c4 : Nat), k ≤ xs.length ∧ kk = .int .i64 k ∧ v = .slice A3 3 c3 ∧ u = .slice A4 3 c4 ∧ Hid (dS.At wr A3 c3 (sUp xs k)) ∧ Hid (dS.At wr A4 c4 (sUp (rot xs r) k)) ∧ Hid (dM.At wr A2 c2 xs) ∧ Hid (Below w.heap.size w wr)) (fun _ _ kk _ => xs.length - (intOf kk).toNat)
  case atStart =>
    refine ⟨0, _, _, _, _, Nat.zero_le _, rfl, rfl, rfl, ?_, ?_, ?_, ?_⟩
    · exact (lit3 _).at_.below (below_alloc (Below.refl _ _) _)
    · have hl := (lit3 (w2.alloc (.cells #[.int .i64 0, .int .i64 0, .int .i64 0, .int .i64 0, .int .i64 0, .int .i64 0] 44))).at_
      have e : (w2.alloc (.cells #[.int .i64 0, .int .i64 0, .int .i64 0, .int .i64 0, .int .i64 0, .int .i64 0] 44)).heap.size = w2.heap.size + 1 := by simp
      rw [e] at hl
      exact hl
    · exact O2.out.at_.below (below_alloc (below_alloc (Below.refl _ _) _) _)
    · exact below_alloc (below_alloc (below_step B1.out B2.out) _) _
  case round =>
    obtain ⟨k, A3, A4, c3, c4, hk, rfl, rfl, rfl, H3, H4, HX, HB⟩ := hrel
    by_cases hlt : k < xs.length
    · have hx : xs[k]? = some xs[k] := List.getElem?_eq_getElem hlt
      have hmd : (r + k) % xs.length < xs.length := Nat.mod_lt _ (by omega)
      have hy : xs[(r + k) % xs.length]? = some xs[(r + k) % xs.length] := List.getElem?_eq_getElem hmd
      have s1 := hsm.out _ (List.getElem_mem hlt)
      have s2 := hsm.out _ (List.getElem_mem hmd)
      have e1 := sUp_succ xs k _ hx
      have e2 := sUp_succ (rot xs r) k _ (rot_get xs r k hlt)
      rw [List.getD_eq_getElem?_getD, hy, Option.getD_some] at e2
      have hi : Int.tmod ((r : Int) + k) (xs.length : Int) = (((r + k) % xs.length : Nat) : Int) := by
        rw [Int.tmod_eq_emod_of_nonneg (by omega)]; simp
      obtain ⟨b, off, rfl, hb, p0, p1, p2⟩ := at_getM HX.out k _ hx
      obtain ⟨b', off', hbb, _, q0, q1, q2⟩ := at_getM HX.out ((r + k) % xs.length) _ hy
      obtain ⟨rfl, rfl⟩ : b = b' ∧ off = off' := by injection hbb with e; injection e with e1 e2; exact ⟨e1, e2⟩
      clear hbb
      generalize xs[k] = x at p0 p1 p2 s1 e1 hx
      generalize xs[(r + k) % xs.length] = y at q0 q1 q2 s2 e2 hy
      clear hx hy
      generalize hjj : (r + k) % xs.length = j at q0 q1 q2 hi hmd
      obtain ⟨x0, x3, xv0, xv9, _, _⟩ := s1
      obtain ⟨y0, y3, yv0, yv9, _, _⟩ := s2
      have f1 : IntKind.i64.wrap (10 * x.v) = 10 * x.v := by rw [IntKind.wrap_i64]; omega
      have f2 : IntKind.i64.wrap (10 * x.v + x.s) = 10 * x.v + x.s := by rw [IntKind.wrap_i64]; omega
      have f3 : IntKind.i64.wrap (10 * x.v + x.s + 1) = 10 * x.v + x.s + 1 := by rw [IntKind.wrap_i64]; omega
      have f4 : IntKind.i64.wrap (10 * y.v) = 10 * y.v := by rw [IntKind.wrap_i64]; omega
      have f5 : IntKind.i64.wrap (10 * y.v + y.s) = 10 * y.v + y.s := by rw [IntKind.wrap_i64]; omega
      have f6 : IntKind.i64.wrap (10 * y.v + y.s + 1) = 10 * y.v + y.s + 1 := by rw [IntKind.wrap_i64]; omega
      have l3 := sUp_len xs k
      have l4 := sUp_len (rot xs r) k
      have C1 := Lib.hid (show3' A3 c3 (sUp xs k) _ ⟨x.s, x.v, 10 * x.v + x.s + 1⟩ e1.symm l3)
      have C2 := Lib.hid (show3' A4 c4 (sUp (rot xs r) k) _ ⟨y.s, y.v, 10 * y.v + y.s + 1⟩ e2.symm l4)
      have C3 := Lib.hid (fun A c => show3' A c (sUp (rot xs r) (k + 1)) (sUp (rot xs r) (k + 1)) ⟨y.s, y.v, 10 * y.v + y.s + 1⟩ (by rw [e2]; exact showL_twice _ (fixM y)) (sUp_len _ _))
      clear e1 e2 l3 l4
      have HB2 : Hid (Below wr.heap.size wr ((wr.alloc (.cells #[.int .i64 x.s, .int .i64 x.v, .int .i64 (10 * x.v + x.s + 1)] 26)).alloc (.cells #[.int .i64 y.s, .int .i64 y.v, .int .i64 (10 * y.v + y.s + 1)] 26))) := below_alloc (below_alloc (Below.refl _ _) _) _
      have n0 : ((wr.alloc (.cells #[.int .i64 x.s, .int .i64 x.v, .int .i64 (10 * x.v + x.s + 1)] 26)).alloc (.cells #[.int .i64 y.s, .int .i64 y.v, .int .i64 (10 * y.v + y.s + 1)] 26)).cell? ⟨wr.heap.size + 1, 0, none⟩ = some (.int .i64 y.s) := by go_simp
      have n1 : ((wr.alloc (.cells #[.int .i64 x.s, .int .i64 x.v, .int .i64 (10 * x.v + x.s + 1)] 26)).alloc (.cells #[.int .i64 y.s, .int .i64 y.v, .int .i64 (10 * y.v + y.s + 1)] 26)).cell? ⟨wr.heap.size + 1, 1, none⟩ = some (.int .i64 y.v) := by go_simp
      have n2 : ((wr.alloc (.cells #[.int .i64 x.s, .int .i64 x.v, .int .i64 (10 * x.v + x.s + 1)] 26)).alloc (.cells #[.int .i64 y.s, .int .i64 y.v, .int .i64 (10 * y.v + y.s + 1)] 26)).cell? ⟨wr.heap.size + 1, 2, none⟩ = some (.int .i64 (10 * y.v + y.s + 1)) := by go_simp
      have N0 := Lib.hid n0
      have N1 := Lib.hid n1
      have N2 := Lib.hid n2
      clear n0 n1 n2
      go_wp2_with (go_at_call 22; refine (C1.out _ (H3.out.below HB2.out)).mono ?_; rintro e w3 ⟨A5, c5, rfl, o3, b3⟩; have n0 := below_cell b3 N0.out; have n1 := below_cell b3 N1.out; have n2 := below_cell b3 N2.out; have O3 := Lib.hid o3; have B3 := Lib.hid b3; clear o3 b3)
      have H4' := Lib.hid ((H4.out.below HB2.out).below B3.out)
      go_region_with (first
        | (go_at_call 22; refine (C3.out A6 c6 _ ?_).mono ?_; (refine O4.out.at_.below ?_; (repeat (first | exact Below.refl _ _ | refine below_alloc ?_ _ | refine below_drew ?_ | refine below_drewN ?_ _))); rintro e w5 ⟨A7, c7, rfl, o5, b5⟩; have O5 := Lib.hid o5; have B5 := Lib.hid (below_step (w := w4) (by (repeat (first | exact Below.refl _ _ | refine below_alloc ?_ _ | refine below_drew ?_ | refine below_drewN ?_ _))) b5); clear o5 b5)
        | (go_at_call 22; refine (C2.out _ ?_).mono ?_; (refine H4'.out.below ?_; (repeat (first | exact Below.refl _ _ | refine below_alloc ?_ _ | refine below_drew ?_ | refine below_drewN ?_ _))); rintro e w4 ⟨A6, c6, rfl, o4, b4⟩; have m0 := below_cell b4 n0; have m1 := below_cell b4 n1; have m2 := below_cell b4 n2; have O4 := Lib.hid o4; have B4 := Lib.hid (below_step (w := w3) (by (repeat (first | exact Below.refl _ _ | refine below_alloc ?_ _ | refine below_drew ?_ | refine below_drewN ?_ _))) b4); clear o4 b4))
      all_goals go_wp2
      all_goals refine ⟨⟨k + 1, A5, A7, c5, c7, by omega, by go_num, rfl, rfl, (O3.out.at_.below B4.out).below B5.out, O5.out.at_, (((HX.out.below HB2.out).below B3.out).below B4.out).below B5.out, below_step (below_step (below_step (below_step HB.out HB2.out) B3.out) B4.out) B5.out⟩, ?_⟩
      all_goals (simp [intOf]; omega)
    · have hkl : k = xs.length := by omega
      subst hkl
      have he := order_eq xs r hsm.out
      have l3 := sUp_len xs xs.length
      have l4 := sUp_len (rot xs r) xs.length
      have HS : Calls Try.prog 21 #[.slice A3 3 c3, .slice A4 3 c4] wr fun e w' => e = .returned (.bool true) ∧ ∃ m, w' = wr.drewN m := by
        have q := sameS_any A3 A4 c3 c4 _ _ wr H3.out H4.out
        rw [l3, l4, decide_eq_true he] at q
        exact q
      have HS2 := Lib.hid HS
      clear HS he l3 l4
      go_wp2_with (go_at_call 21; refine HS2.out.mono ?_; rintro e w3 ⟨rfl, m, rfl⟩)
      go_ret
      exact ⟨rfl, below_drewN HB.out _⟩
end Go.Proofs.Ytkmmiiaadoinpaa.Mar
