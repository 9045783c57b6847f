/- MarketTwice: its walk. -/
import Derived.Test.YtkmmiiaadoinpaaMarL
namespace Go.Proofs.Ytkmmiiaadoinpaa.Mar
open Go.RowKit Go.Proofs.Ytkmmiiaadoinpaa.Mem

theorem quiet_add {P : Program} {f : FuncId} {args : Array Value} {w : World} {a n : Nat} {v : Value}
    (h : Calls P f args (w.drewN (a + n)) fun e w' => e = .returned v ∧ ∃ q, w' = (w.drewN (a + n)).drewN q) :
    Calls P f args (w.drewN (a + n)) fun e w'' => e = .returned v ∧ ∃ m, w'' = w.drewN (a + m) :=
  h.mono fun _ _ ⟨he, q, hm⟩ => ⟨he, n + q, by rw [hm, World.drewN_drewN, Nat.add_assoc]⟩
theorem showL_len (S : List Shown) (m : Mail) : (showL S m).length = S.length := by
  unfold showL; split
  · rw [List.length_set]
  · rfl
theorem show3 (A : Option Addr) (c : Nat) (S : List Shown) (m : Mail) (W : World) (hS : S.length = 3) (h : dS.At W A c S) : Calls Try.prog 22 #[.slice A 3 c, .agg #[.int .i64 m.s, .int .i64 m.v, .int .i64 m.p]] W (Is dS 44 W (showL S m) 3) := by
  have k := show_any A c S m W h (by omega)
  rw [hS] at k
  refine k.mono fun e w' ⟨A', c', he, ho, hb⟩ => ⟨A', c', ?_, ho, hb⟩
  rw [he, showL_len, hS]
theorem lit3 (w : World) : dS.Own 44 (w.alloc (.cells #[.int .i64 0, .int .i64 0, .int .i64 0, .int .i64 0, .int .i64 0, .int .i64 0] 44)) w.heap.size (some ⟨w.heap.size, 0, none⟩) 3 [⟨0, 0⟩, ⟨0, 0⟩, ⟨0, 0⟩] :=
  En.Own.lit dS w w.heap.size 44 _ [⟨0, 0⟩, ⟨0, 0⟩, ⟨0, 0⟩] (Nat.le_refl _) (by decide) rfl
theorem mailsL_len (rs : List Mail) : (mailsL rs).length ≤ 30 := by unfold mailsL; rw [List.length_map, List.length_take]; omega

theorem showL_in (S : List Shown) (m : Mail) (q : Nat) (hq : q < S.length) (hs : m.s = q) (x : Shown) (hx : S[q]? = some x) : showL S m = if x.v < m.v then S.set q ⟨m.v, m.p⟩ else S := by
  unfold showL
  rw [hs, Int.toNat_natCast, List.getD_eq_getElem?_getD, hx, Option.getD_some]
  by_cases hv : x.v < m.v
  · rw [if_pos hv, if_pos ⟨by omega, by omega, hv⟩]
  · rw [if_neg hv, if_neg (fun h => hv h.2.2)]
theorem showL_other (S : List Shown) (m : Mail) (k : Nat) (hk : (k : Int) ≠ m.s) : (showL S m)[k]? = S[k]? := by
  unfold showL
  split
  · rw [List.getElem?_set_ne (by omega)]
  · rfl
theorem showL_twice (S : List Shown) (m : Mail) : showL (showL S m) m = showL S m := by
  by_cases h : 0 ≤ m.s ∧ m.s < S.length
  · obtain ⟨q, hs⟩ : ∃ q : Nat, m.s = q := ⟨m.s.toNat, by omega⟩
    have hq : q < S.length := by omega
    have hx : S[q]? = some S[q] := List.getElem?_eq_getElem hq
    rw [showL_in S m q hq hs _ hx]
    by_cases hv : (S[q]).v < m.v
    · rw [if_pos hv]
      rw [showL_in (S.set q ⟨m.v, m.p⟩) m q (by rw [List.length_set]; exact hq) hs ⟨m.v, m.p⟩ (List.getElem?_set_self hq), if_neg (by simp)]
    · rw [if_neg hv, showL_in S m q hq hs _ hx, if_neg hv]
  · have e : ∀ T : List Shown, T.length = S.length → showL T m = T := fun T hT => if_neg (fun k => h ⟨k.1, by rw [← hT]; exact k.2.1⟩)
    rw [e S rfl, e S rfl]
/-- What stands at the mail's place. -/
theorem showL_at (S : List Shown) (m : Mail) (q : Nat) (hq : q < S.length) (hs : m.s = q) (x : Shown) (hx : S[q]? = some x) : (x.v < m.v ∧ (showL S m)[q]? = some ⟨m.v, m.p⟩) ∨ (¬ x.v < m.v ∧ (showL S m)[q]? = some x) := by
  rw [showL_in S m q hq hs x hx]
  by_cases hv : x.v < m.v
  · rw [if_pos hv]; exact .inl ⟨hv, List.getElem?_set_self hq⟩
  · rw [if_neg hv]; exact .inr ⟨hv, hx⟩

set_option maxRecDepth 100000 in
set_option maxHeartbeats 4000000 in
theorem twice_any (A : Option Addr) (c : Nat) (rs : List Mail) (sk ve pr : Int) (w : World) (h : dM.At w A c rs) (hr : ∀ r ∈ rs, R64 r) (b0 : -9223372036854775808 ≤ sk ∧ sk ≤ 9223372036854775807) (b1 : -9223372036854775808 ≤ ve ∧ ve ≤ 9223372036854775807) (b2 : -9223372036854775808 ≤ pr ∧ pr ≤ 9223372036854775807) :
    Calls Try.prog 7 #[.slice A rs.length c, .int .i64 sk, .int .i64 ve, .int .i64 pr] w fun e w' => e = .returned (.bool true) ∧ Below w.heap.size w w' := by
  have H := Lib.hid h
  have HC := Lib.hid (fun W hW => mails_any A c rs W hW hr)
  have hml := mailsL_len rs
  generalize mailsL rs = xs at HC hml
  clear h hr
  have P0 : Pick sk 3 (pickI sk 3) := ⟨b0, by omega, rfl⟩
  have P1 : Pick ve 12 (pickI ve 12) := ⟨b1, by omega, rfl⟩
  have P2 : Pick pr 900 (pickI pr 900) := ⟨b2, by omega, rfl⟩
  have d0 := pick_bd sk 3 (by omega)
  have d2 := pick_bd pr 900 (by omega)
  generalize pickI sk 3 = y0 at P0 d0
  generalize pickI ve 12 = y1 at P1
  generalize pickI pr 900 = y2 at P2 d2
  obtain ⟨q, rfl⟩ : ∃ q : Nat, y0 = q := ⟨y0.toNat, by omega⟩
  have hq3 : q < 3 := by omega
  have hw : IntKind.i64.wrap (1 + y2) = 1 + y2 := by rw [IntKind.wrap_i64]; omega
  generalize hy3 : 1 + y2 = y3 at hw
  clear b0 b1 b2 d0 d2
  have hmk := mk3
  go_enter Try.func7, Try.ntmps7
  go_wp2_with (first
    | (go_at_call 10; refine (HC.out _ (H.out.below (below_alloc B1.out _))).mono ?_; rintro e w2 ⟨A2, c2, rfl, o2, b2⟩; have O2 := Lib.hid o2; have B2 := Lib.hid b2; clear o2 b2)
    | (go_at_call 9; refine (awake_any _).mono ?_; rintro e w1 ⟨rfl, b1⟩; have B1 := Lib.hid b1; clear b1))
  go_loopw [10, 12] (fun v kk wr => ∃ (k : Nat) (A' : Option Addr) (c' : Nat) (S : List Shown), k ≤ xs.length ∧ kk = .int .i64 k ∧ v = .slice A' 3 c' ∧ S.length = 3 ∧ Hid (dS.At wr A' c' S) ∧ Hid (dM.At wr A2 c2 xs) ∧ Hid (Below w.heap.size w wr)) (fun _ kk _ => xs.length - (intOf kk).toNat)
  case atStart =>
    refine ⟨0, _, _, [⟨0, 0⟩, ⟨0, 0⟩, ⟨0, 0⟩], Nat.zero_le _, rfl, rfl, rfl, (lit3 w1).at_.below B2.out, O2.out.at_, below_step (below_alloc B1.out _) B2.out⟩
  case round =>
    obtain ⟨k, A', c', S, hk, rfl, rfl, hS, HS, HX, HB⟩ := hrel
    by_cases hlt : k < xs.length
    · have hx : xs[k]? = some xs[k] := List.getElem?_eq_getElem hlt
      obtain ⟨b, off, rfl, hb, c0, c1, c3⟩ := at_getM HX.out k _ hx
      generalize xs[k] = x at c0 c1 c3 hx
      clear hx
      go_wp2_with (go_at_call 22; refine (show3 A' c' S x _ hS HS.out).mono ?_; rintro e w3 ⟨A3, c3, rfl, o3, b3⟩; have O3 := Lib.hid o3; have B3 := Lib.hid b3; clear o3 b3)
      refine ⟨⟨k + 1, A3, _, _, by omega, by go_num, rfl, (showL_len S x).trans hS, O3.out.at_, HX.out.below B3.out, below_step HB.out B3.out⟩, ?_⟩
      simp [intOf]; omega
    · have hkl : k = xs.length := by omega
      subst hkl
      have S1 := (showL_len S ⟨q, y1, y3⟩).trans hS
      have T1 := Lib.hid (showL_twice S ⟨q, y1, y3⟩)
      have D1 := Lib.hid (fun k hk => showL_other S ⟨q, y1, y3⟩ k hk)
      have D2 := Lib.hid (showL_at S ⟨q, y1, y3⟩ q (by omega) rfl)
      have F1 := Lib.hid (fun W hW => show3 A' c' S ⟨q, y1, y3⟩ W hS hW)
      have F2 := Lib.hid (fun A c W hW => show3 A c (showL S ⟨q, y1, y3⟩) ⟨q, y1, y3⟩ W S1 hW)
      rw [T1.out] at F2
      generalize showL S ⟨q, y1, y3⟩ = a at S1 T1 D1 D2 F1 F2
      go_wp2_with (first
        | (go_at_call 14; refine (pick_of _ (by assumption)).mono ?_; rintro e w' ⟨rfl, rfl⟩)
        | (go_at_call 22; refine (F2.out A3 c3 _ O3.out.at_).mono ?_; rintro e w4 ⟨A4, c4, rfl, o4, b4⟩; have O4 := Lib.hid o4; have B4 := Lib.hid b4; clear o4 b4)
        | (go_at_call 22; refine (F1.out _ (HS.out.below (below_alloc (Below.refl _ _) _))).mono ?_; rintro e w3 ⟨A3, c3, rfl, o3, b3⟩; have q0 : w3.cell? ⟨wr.heap.size, 0, none⟩ = some (.int .i64 q) := below_cell b3 (cell_new wr _ _ _); have q1 : w3.cell? ⟨wr.heap.size, 1, none⟩ = some (.int .i64 y1) := below_cell b3 (cell_new wr _ _ _); have q2 : w3.cell? ⟨wr.heap.size, 2, none⟩ = some (.int .i64 y3) := below_cell b3 (cell_new wr _ _ _); have O3 := Lib.hid o3; have B3 := Lib.hid b3; clear o3 b3))
      have p0 := below_cell B4.out q0
      have p1 := below_cell B4.out q1
      have p2 := below_cell B4.out q2
      have G1 := Lib.hid (O3.out.at_.below B4.out)
      have G2 := Lib.hid (((HS.out.below (below_alloc (Below.refl _ _) _)).below B3.out).below B4.out)
      have G3 := Lib.hid O4.out.at_
      have BB := Lib.hid (below_step (below_step (below_alloc HB.out _) B3.out) B4.out)
      have HSame : ∀ n, Calls Try.prog 21 #[.slice A3 3 c3, .slice A4 3 c4] (w4.drewN n) fun e w' => e = .returned (.bool true) ∧ ∃ m, w' = (w4.drewN n).drewN m := fun n => by
        have k := sameS_any A3 A4 c3 c4 a a _ (G1.out.drewN n) (G3.out.drewN n)
        rw [S1, decide_eq_true rfl] at k
        exact k
      have HSS := Lib.hid HSame
      clear HSame q0 q1 q2 hw hmk
      go_loopw [16] (fun kk wr2 => ∃ (k m : Nat), k ≤ 3 ∧ kk = .int .i64 k ∧ wr2 = w4.drewN m) (fun kk _ => 3 - (intOf kk).toNat)
      case atStart => exact ⟨0, 0, Nat.zero_le _, rfl, rfl⟩
      case round =>
        obtain ⟨k, m, hk3, rfl, rfl⟩ := hrel
        by_cases hlt3 : k < 3
        · have hx : S[k]? = some (S[k]'(by omega)) := List.getElem?_eq_getElem (by omega)
          generalize S[k]'(by omega) = x at hx
          by_cases hkq : k = q
          · subst hkq
            go_wp2_with fail
            go_quiet (fail)
            go_wp2
            refine ⟨⟨k + 1, m + nq, by omega, by go_num, rfl⟩, ?_⟩
            simp [intOf]; omega
          · have hy : a[k]? = some x := (D1.out k (fun e => hkq (by have : (k : Int) = q := e; omega))).trans hx
            have g1 : ((k : Int) == (q : Int)) = false := by simp; omega
            have g2 : (k == q) = false := by simp; omega
            have g3 : decide (k = q) = false := by simp; omega
            have g4 : ((k : Int) != (q : Int)) = true := by simp; omega
            obtain ⟨b, off, rfl, hb, c0, c1⟩ := at_getS G1.out k _ hy
            obtain ⟨b', off', rfl, hb', d0, d1⟩ := at_getS G2.out k _ hx
            clear hx hy
            go_wp2_with fail
            go_quiet (fail)
            go_wp2
            refine ⟨⟨k + 1, m + nq, by omega, by go_num, rfl⟩, ?_⟩
            simp [intOf]; omega
        · have hk : k = 3 := by omega
          subst hk
          have hx : S[q]? = some (S[q]'(by omega)) := List.getElem?_eq_getElem (by omega)
          generalize S[q]'(by omega) = x at hx
          rcases D2.out x hx with ⟨hv, hy⟩ | ⟨hv, hy⟩
          · obtain ⟨b, off, rfl, hb, c0, c1⟩ := at_getS G1.out q _ hy
            obtain ⟨b', off', rfl, hb', d0, d1⟩ := at_getS G2.out q _ hx
            have hv' : x.v < y1 := hv
            have hq : ∀ W, (Op.equalIn 10000 44 (.agg #[.int .i64 y1, .int .i64 y3]) (.agg #[.int .i64 x.v, .int .i64 x.p])).run Try.prog W = .ok false W := fun W => by rw [eqA44]; rw [decide_eq_false (by omega)]
            clear hx hy hv
            go_wp2_with fail
            go_quiet ((go_at_call 21; exact quiet_add (HSS.out _)))
            go_wp2
            go_ret
            exact ⟨rfl, below_drewN (below_drewN BB.out _) _⟩
          · obtain ⟨b, off, rfl, hb, c0, c1⟩ := at_getS G1.out q _ hy
            obtain ⟨b', off', rfl, hb', d0, d1⟩ := at_getS G2.out q _ hx
            have hv' : ¬ x.v < y1 := Int.not_lt.2 hv
            clear hx hy hv
            go_wp2_with fail
            go_quiet ((go_at_call 21; exact quiet_add (HSS.out _)))
            go_wp2
            go_ret
            exact ⟨rfl, below_drewN (below_drewN BB.out _) _⟩
end Go.Proofs.Ytkmmiiaadoinpaa.Mar
