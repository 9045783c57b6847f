/- The walks of MoneyBack and MoneyTurned: true at all whole numbers of 64 bits. -/
import Derived.Test.YtbkhbmjhdggocaaMoneyC
namespace Go.Proofs.Ytbkhbmjhdggocaa.MoneyA
open Go.RowKit

/-- A call of two whole numbers that answers two. -/
def C2 (f : Nat) (a b r s : Int) : Prop := ∀ W : World, Calls Try.prog f #[.int .i64 a, .int .i64 b] W fun e w' => e = .returned (.tuple #[.int .i64 r, .int .i64 s]) ∧ ∃ m, w' = W.drewN m
theorem C2.of {f : Nat} {a b : Int} {r q : Int × Int} (h : ∀ W : World, Calls Try.prog f #[.int .i64 a, .int .i64 b] W fun e w' => e = .returned (.tuple #[.int .i64 r.1, .int .i64 r.2]) ∧ ∃ m, w' = W.drewN m) (e : r = q) : C2 f a b q.1 q.2 := by
  subst e; exact h
theorem same0 {P : Program} {f : Nat} {vs : Array Value} {W : World} {v : Value} (h : Calls P f vs W fun e w' => e = .returned v ∧ w' = W) : Calls P f vs W fun e w' => e = .returned v ∧ ∃ m, w' = W.drewN m :=
  h.mono fun _ _ ⟨he, hw⟩ => ⟨he, 0, hw⟩
theorem tell_yes {q : Int} (h : rightI q = true) : tell q = (q, 0) := if_pos h
theorem tell_no {q : Int} (h : ¬ rightI q = true) : tell q = (0, 10) := if_neg h
theorem rightOf {a : Int} (h : -1000000000000 ≤ a) (h' : a ≤ 1000000000000) : rightI a = true := decide_eq_true ⟨h, h'⟩

theorem back_tail (a b n k z p q x y s f1 d g : Int) (w : World) (hk0 : 0 ≤ k) (hk1 : k < 50)
    (hx : ∀ W, Calls Try.prog 16 #[.int .i64 a] W fun e w' => e = .returned (.int .i64 x) ∧ w' = W) (hy : ∀ W, Calls Try.prog 16 #[.int .i64 b] W fun e w' => e = .returned (.int .i64 y) ∧ w' = W)
    (hk : ∀ W, Calls Try.prog 12 #[.int .i64 n, .int .i64 50] W fun e w' => e = .returned (.int .i64 k) ∧ w' = W) (hz : ∀ W, Calls Try.prog 12 #[.int .i64 a, .int .i64 1000000000] W fun e w' => e = .returned (.int .i64 z) ∧ w' = W)
    (ha1 : C2 17 x y s f1) (ha2 : C2 17 y x s f1) (hs : C2 21 s y d g) (hd : (f1 = 0 ∧ g = 0 ∧ d = x) ∨ f1 = 10)
    (ht1 : C2 23 z k p 0) (ht2 : C2 23 z (k + 1) q 0) (ha3 : C2 17 p z q 0) :
    Calls Try.prog 8 #[.int .i64 a, .int .i64 b, .int .i64 n] w fun e w' => e = .returned (.bool true) ∧ ∃ m, w' = w.drewN m := by
  have HX : Hid (∀ W, Calls Try.prog 16 #[.int .i64 a] W fun e w' => e = .returned (.int .i64 x) ∧ w' = W) := hx
  have HY : Hid (∀ W, Calls Try.prog 16 #[.int .i64 b] W fun e w' => e = .returned (.int .i64 y) ∧ w' = W) := hy
  have HK : Hid (∀ W, Calls Try.prog 12 #[.int .i64 n, .int .i64 50] W fun e w' => e = .returned (.int .i64 k) ∧ w' = W) := hk
  have HZ : Hid (∀ W, Calls Try.prog 12 #[.int .i64 a, .int .i64 1000000000] W fun e w' => e = .returned (.int .i64 z) ∧ w' = W) := hz
  clear hx hy hk hz
  rcases hd with ⟨rfl, rfl, rfl⟩ | rfl
  all_goals
    go_enter Try.func8, Try.ntmps8
    go_wp2_with fail
    refine (awake_any _).mono ?_
    rintro e w' ⟨rfl, rfl⟩
    go_wp2_with fail
    refine (HX.out _).mono ?_
    rintro e w' ⟨rfl, rfl⟩
    go_wp2_with fail
    refine (HY.out _).mono ?_
    rintro e w' ⟨rfl, rfl⟩
    go_wp2_with fail
    refine (ha1 _).mono ?_
    rintro e w' ⟨rfl, m1, rfl⟩
    go_wp2_with fail
    refine (ha2 _).mono ?_
    rintro e w' ⟨rfl, m2, rfl⟩
    go_wp2_with fail
    refine (hs _).mono ?_
    rintro e w' ⟨rfl, m3, rfl⟩
    go_wp2_with fail
    refine (HK.out _).mono ?_
    rintro e w' ⟨rfl, rfl⟩
    go_wp2_with fail
    refine (HZ.out _).mono ?_
    rintro e w' ⟨rfl, rfl⟩
    go_wp2_with fail
    refine (ht1 _).mono ?_
    rintro e w' ⟨rfl, m4, rfl⟩
    go_wp2_with fail
    refine (ht2 _).mono ?_
    rintro e w' ⟨rfl, m5, rfl⟩
    go_wp2_with fail
    refine (ha3 _).mono ?_
    rintro e w' ⟨rfl, m6, rfl⟩
    go_wp2_with fail
    go_ret
    exact ⟨rfl, _, rfl⟩
theorem wfB {a : Int} (h : (Lit.int .i64 a).wf = true) : -9223372036854775808 ≤ a ∧ a ≤ 9223372036854775807 := by
  simpa [Lit.wf, IntKind.min, IntKind.max, IntKind.signed, IntKind.bits] using h
theorem below_drewN (w : World) (n : Nat) : Below w.heap.size w (w.drewN n) := ⟨rfl, rfl, rfl, Nat.le_refl _, fun _ _ => rfl⟩

theorem add_of (x y : Int) (hx : rightI x = true) (hy : rightI y = true) {q : Int × Int} (h : tell (x + y) = q) : C2 17 x y q.1 q.2 :=
  C2.of (fun W => same0 (add_any x y W)) (by rw [both_yes hx hy, h])
theorem sub_of (x y : Int) (hx : rightI x = true) (hy : rightI y = true) {q : Int × Int} (h : tell (x - y) = q) : C2 21 x y q.1 q.2 :=
  C2.of (fun W => same0 (sub_any x y W)) (by rw [both_yes hx hy, h])
theorem times_of (x y : Int) (hx : rightI x = true) (hy : rightI y = true) {q : Int × Int} (h : tell (x * y) = q) : C2 23 x y q.1 q.2 :=
  C2.of (fun W => times_any x y W) (by rw [both_yes hx hy, h])

theorem back_any (a b n : Int) (w : World) (wa : (Lit.int .i64 a).wf = true) (wb : (Lit.int .i64 b).wf = true) (wn : (Lit.int .i64 n).wf = true) :
    Calls Try.prog 8 #[.int .i64 a, .int .i64 b, .int .i64 n] w fun e w' => e = .returned (.bool true) ∧ Below w.heap.size w w' := by
  have ba := wfB wa
  have bb := wfB wb
  have bn := wfB wn
  have hx := amount_bd a
  have hy := amount_bd b
  have hk := pick_bd n 50 (by omega)
  have hz := pick_bd a 1000000000 (by omega)
  have hzr : rightI (pickI a 1000000000) = true := rightOf (by omega) (by omega)
  have hm := mul_in (a := pickI a 1000000000) (b := pickI n 50) (A := 1000000000) (B := 50) (by omega) (by omega) (by omega) (by omega)
  have hp : pickI a 1000000000 * (pickI n 50 + 1) = pickI a 1000000000 * pickI n 50 + pickI a 1000000000 := by rw [Int.mul_add, Int.mul_one]
  have t1 : C2 23 (pickI a 1000000000) (pickI n 50) (pickI a 1000000000 * pickI n 50) 0 := times_of _ _ hzr (rightOf (by omega) (by omega)) (tell_yes (rightOf (by omega) (by omega)))
  have t2 : C2 23 (pickI a 1000000000) (pickI n 50 + 1) (pickI a 1000000000 * pickI n 50 + pickI a 1000000000) 0 := times_of _ _ hzr (rightOf (by omega) (by omega)) (q := (pickI a 1000000000 * pickI n 50 + pickI a 1000000000, 0)) (by rw [hp]; exact tell_yes (rightOf (by omega) (by omega)))
  have t3 : C2 17 (pickI a 1000000000 * pickI n 50) (pickI a 1000000000) (pickI a 1000000000 * pickI n 50 + pickI a 1000000000) 0 := add_of _ _ (rightOf (by omega) (by omega)) hzr (tell_yes (rightOf (by omega) (by omega)))
  refine Calls.mono (R := fun e w' => e = .returned (.bool true) ∧ ∃ m, w' = w.drewN m) ?_ fun e w' ⟨he, m, hw⟩ => ⟨he, by rw [hw]; exact below_drewN w m⟩
  by_cases hs : rightI (amountI a + amountI b) = true
  · refine back_tail a b n _ _ _ _ (amountI a) (amountI b) (amountI a + amountI b) 0 (amountI a) 0 w hk.1 hk.2 (fun W => amount_any a W ba.1 ba.2) (fun W => amount_any b W bb.1 bb.2) (fun W => pick_any n 50 W bn.1 bn.2 (by omega)) (fun W => pick_any a 1000000000 W ba.1 ba.2 (by omega))
      (add_of _ _ hx hy (tell_yes hs)) (add_of _ _ hy hx (q := (amountI a + amountI b, 0)) (by rw [Int.add_comm]; exact tell_yes hs)) (sub_of _ _ hs hy (q := (amountI a, 0)) ?_) (.inl ⟨rfl, rfl, rfl⟩) t1 t2 t3
    rw [Int.add_sub_cancel]
    exact tell_yes hx
  · exact back_tail a b n _ _ _ _ (amountI a) (amountI b) 0 10 (tell (0 - amountI b)).1 (tell (0 - amountI b)).2 w hk.1 hk.2 (fun W => amount_any a W ba.1 ba.2) (fun W => amount_any b W bb.1 bb.2) (fun W => pick_any n 50 W bn.1 bn.2 (by omega)) (fun W => pick_any a 1000000000 W ba.1 ba.2 (by omega))
      (add_of _ _ hx hy (tell_no hs)) (add_of _ _ hy hx (q := (0, 10)) (by rw [Int.add_comm]; exact tell_no hs)) (sub_of _ _ (by decide) hy rfl) (.inr rfl) t1 t2 t3

theorem turned_walk (a b x y r f p g : Int) (w : World) (hx0 : -1000000000000 ≤ x) (hx1 : x ≤ 1000000000000) (hr0 : -1000000000000 ≤ r) (hr1 : r ≤ 1000000000000) (hp0 : -1000000000000 ≤ p) (hp1 : p ≤ 1000000000000)
    (hx : ∀ W, Calls Try.prog 16 #[.int .i64 a] W fun e w' => e = .returned (.int .i64 x) ∧ w' = W) (hy : ∀ W, Calls Try.prog 16 #[.int .i64 b] W fun e w' => e = .returned (.int .i64 y) ∧ w' = W)
    (hs1 : C2 21 x y (-r) f) (hs2 : C2 21 y x r f) (ht1 : C2 23 x y p g) (ht2 : C2 23 y x p g) (ht3 : C2 23 (-x) y (-p) g) (ht4 : C2 23 x 0 0 0) (ht5 : C2 23 x 1 x 0) :
    Calls Try.prog 10 #[.int .i64 a, .int .i64 b] w fun e w' => e = .returned (.bool true) ∧ ∃ m, w' = w.drewN m := by
  have HX : Hid (∀ W, Calls Try.prog 16 #[.int .i64 a] W fun e w' => e = .returned (.int .i64 x) ∧ w' = W) := hx
  have HY : Hid (∀ W, Calls Try.prog 16 #[.int .i64 b] W fun e w' => e = .returned (.int .i64 y) ∧ w' = W) := hy
  clear hx hy
  go_enter Try.func10, Try.ntmps10
  go_wp2_with fail
  refine (awake_any _).mono ?_
  rintro e w' ⟨rfl, rfl⟩
  go_wp2_with fail
  refine (HX.out _).mono ?_
  rintro e w' ⟨rfl, rfl⟩
  go_wp2_with fail
  refine (HY.out _).mono ?_
  rintro e w' ⟨rfl, rfl⟩
  go_wp2_with fail
  refine (hs1 _).mono ?_
  rintro e w' ⟨rfl, m1, rfl⟩
  go_wp2_with fail
  refine (hs2 _).mono ?_
  rintro e w' ⟨rfl, m2, rfl⟩
  go_wp2_with fail
  refine (ht1 _).mono ?_
  rintro e w' ⟨rfl, m3, rfl⟩
  go_wp2_with fail
  refine (ht2 _).mono ?_
  rintro e w' ⟨rfl, m4, rfl⟩
  go_wp2_with fail
  refine (ht3 _).mono ?_
  rintro e w' ⟨rfl, m5, rfl⟩
  go_wp2_with fail
  refine (ht4 _).mono ?_
  rintro e w' ⟨rfl, m6, rfl⟩
  go_wp2_with fail
  refine (ht5 _).mono ?_
  rintro e w' ⟨rfl, m7, rfl⟩
  go_wp2_with fail
  go_ret
  exact ⟨rfl, _, rfl⟩

theorem tell_bd (q : Int) : -1000000000000 ≤ (tell q).1 ∧ (tell q).1 ≤ 1000000000000 := by
  unfold tell
  split
  · rename_i h; exact rightB h
  · exact ⟨by decide, by decide⟩
theorem tell_turned (q : Int) : tell (-q) = (-(tell q).1, (tell q).2) := by
  rw [← tell_neg]
  have := tell_bd q
  rw [w64 (by omega) (by omega)]
theorem turned_any (a b : Int) (w : World) (wa : (Lit.int .i64 a).wf = true) (wb : (Lit.int .i64 b).wf = true) :
    Calls Try.prog 10 #[.int .i64 a, .int .i64 b] w fun e w' => e = .returned (.bool true) ∧ Below w.heap.size w w' := by
  have ba := wfB wa
  have bb := wfB wb
  have hx := amount_bd a
  have hy := amount_bd b
  have bx := rightB hx
  refine Calls.mono (R := fun e w' => e = .returned (.bool true) ∧ ∃ m, w' = w.drewN m) ?_ fun e w' ⟨he, m, hw⟩ => ⟨he, by rw [hw]; exact below_drewN w m⟩
  have h1 := tell_bd (amountI b - amountI a)
  have h2 := tell_bd (amountI a * amountI b)
  refine turned_walk a b (amountI a) (amountI b) (tell (amountI b - amountI a)).1 (tell (amountI b - amountI a)).2 (tell (amountI a * amountI b)).1 (tell (amountI a * amountI b)).2 w bx.1 bx.2 h1.1 h1.2 h2.1 h2.2
    (fun W => amount_any a W ba.1 ba.2) (fun W => amount_any b W bb.1 bb.2) (sub_of _ _ hx hy (q := (_, _)) ?_) (sub_of _ _ hy hx rfl) (times_of _ _ hx hy rfl) (times_of _ _ hy hx (by rw [Int.mul_comm])) (times_of _ _ (right_neg hx) hy (q := (_, _)) ?_)
    (times_of _ _ hx (by decide) (q := (0, 0)) ?_) (times_of _ _ hx (by decide) (q := (_, 0)) ?_)
  · rw [← tell_turned, Int.neg_sub]
  · rw [← tell_turned, Int.neg_mul]
  · rw [Int.mul_zero]; decide
  · rw [Int.mul_one]; exact tell_yes hx
end Go.Proofs.Ytbkhbmjhdggocaa.MoneyA
