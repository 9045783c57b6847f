/- Contracts of the reference's functions, at a sku that is there; pick and Same. -/
import Derived.Test.YtgeocadpdpjmjaaOutE
namespace Go.Proofs.Ytgeocadpdpjmjaa.Out
open Go.RowKit Go.Proofs.Ytgeocadpdpjmjaa.Mem

theorem rtick_any (x : Int) (w : World) : Calls Try.prog 43 #[.int .i64 x] w fun e w' => e = .returned (.int .i64 (tickI x)) ∧ w = w' := by
  by_cases h : x < 0
  · rw [show tickI x = 0 from if_pos h]
    go_enter Try.func43, Try.ntmps43
    go_wp2
    go_ret
    exact ⟨rfl, rfl⟩
  · by_cases h' : 1099511627776 < x
    · rw [show tickI x = 1099511627776 by unfold tickI; rw [if_neg h, if_pos h']]
      go_enter Try.func43, Try.ntmps43
      go_wp2
      go_ret
      exact ⟨rfl, rfl⟩
    · rw [show tickI x = x by unfold tickI; rw [if_neg h, if_neg h']]
      go_enter Try.func43, Try.ntmps43
      go_wp2
      go_ret
      exact ⟨rfl, rfl⟩
theorem tick_small (x : Int) (h : 0 ≤ x) (h' : x ≤ 1099511627776) : tickI x = x := by unfold tickI; rw [if_neg (by omega), if_neg (by omega)]
theorem rlater_any (a b : Int) (w : World) : Calls Try.prog 38 #[.int .i64 a, .int .i64 b] w fun e w' => e = .returned (.int .i64 (laterI a b)) ∧ w = w' := by
  have ha := tickI_bd a
  have hb := tickI_bd b
  go_enter Try.func38, Try.ntmps38
  go_wp2_with (first | (go_at_call 43; refine (rtick_any _ _).mono ?_; rintro e w' ⟨rfl, rfl⟩))
  go_ret
  refine ⟨ret1 ?_, rfl⟩
  show tickI (tickI a + tickI b) = laterI a b
  unfold laterI
  generalize tickI a = x at *
  generalize tickI b = y at *
  unfold tickI
  rw [if_neg (by omega)]
theorem later0 (x : Int) : laterI x 0 = tickI x := by
  have := tickI_bd x
  unfold laterI
  rw [show tickI 0 = 0 from rfl, if_neg (by omega), Int.add_zero]
theorem rlater0 (x : Int) (w : World) : Calls Try.prog 38 #[.int .i64 x, .int .i64 0] w fun e w' => e = .returned (.int .i64 (tickI x)) ∧ w = w' := by
  have := rlater_any x 0 w
  rwa [later0] at this

theorem own_any (A : Option Addr) (c n : Nat) (xs : List Outs) (hn : xs.length = n) (w : World) (h : dO.At w A c xs) (hb : n * 40 ≤ 140737488355328) : Calls Try.prog 36 #[.slice A n c] w fun e w' => ∃ A' c', e = .returned (.slice A' n c') ∧ dO.Own 35 w' w.heap.size A' c' xs ∧ Below w.heap.size w w' := by
  subst hn
  obtain ⟨i0, hi, hz0, hz1, hz2⟩ := info_parts info35
  have H := Lib.hid h
  clear h
  go_enter Try.func36, Try.ntmps36
  go_wp2_with (at_builtin; refine wpList_app dO _ rfl _ _ 24 rfl w.heap.size 35 i0 _ 40 Try.underlying24 hi hz0 hz1 hz2 rfl none 0 0 [] rfl rfl ?own A c xs.length xs rfl rfl ?at_ ?m1 ?m2 ?m3 ?_)
  case own => exact En.Own.none_ _ _ _
  case at_ => exact H.out
  case m1 => simp only [List.length_nil]; omega
  case m2 => simp only [List.length_nil]; omega
  case m3 => simp
  intro A' c' w' hown hg hat
  have HO := Lib.hid hown
  have HG := Lib.hid hg
  clear hown hg hat
  go_wp2
  go_ret
  exact ⟨A', c', rfl, HO.out, below_grown (Below.refl _ _) HG.out (fun k hk => by simp [Value.ownBlock] at hk)⟩
theorem there_in (A : Option Addr) (c n k : Nat) (w : World) (hk : k < n) (_h1 : n ≤ c) (_h2 : c ≤ 9223372036854775807) : Calls Try.prog 37 #[.slice A n c, .int .i64 k] w fun e w' => e = .returned (.bool true) ∧ w = w' := by
  have h0 : (0 : Int) ≤ (k : Int) := by omega
  go_enter Try.func37, Try.ntmps37
  go_wp2
  go_ret
  exact ⟨rfl, rfl⟩

/-! One field stored. -/
theorem cs_setf {α : Type} (d : En α) (xs : List α) (k : Nat) (x y : α) (hx : xs[k]? = some x) (j : Nat) (hj : j < d.sz) (u : Value) (he : (d.enc x).set j u = d.enc y) : (d.cs xs).set (k * d.sz + j) u = d.cs (xs.set k y) := by
  have hk : k < xs.length := (List.getElem?_eq_some_iff.1 hx).1
  refine d.cs_ext _ _ (by rw [List.length_set, d.cs_length, List.length_set]) fun q z hz i hi => ?_
  have hlt : k * d.sz + j < xs.length * d.sz := by
    have := Nat.mul_le_mul_right d.sz hk
    rw [Nat.succ_mul] at this
    omega
  by_cases hq : k = q
  · subst hq
    have e : z = y := by
      rw [List.getElem?_set_self hk] at hz
      exact (Option.some.inj hz).symm
    subst e
    rw [← he, List.getElem?_set, List.getElem?_set, d.cs_length, d.len]
    by_cases hji : j = i
    · subst hji
      rw [if_pos rfl, if_pos rfl, if_pos hlt, if_pos hj]
    · rw [if_neg (by omega), if_neg hji]
      exact d.cs_get xs k x hx i hi
  · rw [List.getElem?_set_ne hq] at hz
    have hne : k * d.sz + j ≠ q * d.sz + i := by
      intro e
      have h1 : (k * d.sz + j) / d.sz = k := by rw [Nat.mul_comm, Nat.mul_add_div d.pos, Nat.div_eq_of_lt hj]; rfl
      have h2 : (q * d.sz + i) / d.sz = q := by rw [Nat.mul_comm, Nat.mul_add_div d.pos, Nat.div_eq_of_lt hi]; rfl
      rw [e, h2] at h1
      exact hq h1.symm
    rw [List.getElem?_set_ne hne]
    exact d.cs_get xs q z hz i hi
theorem own_setf {w : World} {base g c : Nat} {xs : List Outs} (h : dO.Own 35 w base (some ⟨g, 0, none⟩) c xs) (k : Nat) (x y : Outs) (hx : xs[k]? = some x) (j : Nat) (hj : j < 5) (u : Value) (he : (dO.enc x).set j u = dO.enc y) :
    dO.Own 35 (w.setCell ⟨g, k * 5 + j, none⟩ u) base (some ⟨g, 0, none⟩) c (xs.set k y) := by
  have h1 := (World.ownsRow.stored h (k * 5 + j) u).1
  unfold En.Own
  rw [List.length_set, ← cs_setf dO xs k x y hx j hj u he]
  exact h1

theorem rack_any (A : Option Addr) (c k n : Nat) (xs : List Outs) (hn : xs.length = n) (x : Outs) (ver : Int) (b : Bool) (hb' : ackB x ver = b) (w : World) (h : dO.At w A c xs) (hb : n * 40 ≤ 140737488355328) (hx : xs[k]? = some x) :
    Calls Try.prog 20 #[.slice A n c, .int .i64 k, .int .i64 ver] w (IsB w (xs.set k (if b = true then stateO x 2 else x)) n b) := by
  have H := Lib.hid h
  have hkn : k < n := by rw [← hn]; exact (List.getElem?_eq_some_iff.1 hx).1
  have hle : n ≤ c := by rw [← hn]; exact h.le
  have hmax := h.max
  have h0k : (0 : Int) ≤ (k : Int) := by omega
  obtain ⟨bA, oA, rfl, hbA, c0, c1, c2, c3, c4⟩ := at_getO h k x hx
  have HO := Lib.hid (fun W hW => own_any (some ⟨bA, oA, none⟩) c n xs hn W hW hb)
  have HT := Lib.hid (fun W => there_in (some ⟨bA, oA, none⟩) c n k W hkn hle hmax)
  have HX := Lib.hid hx
  clear h hn hx
  obtain ⟨v, p, t, nx, s⟩ := x
  have hb2 : decide (v = ver ∧ (s = 1 ∨ s = 3)) = b := hb'
  clear hb'
  by_cases hv : v = ver
  · subst hv
    have g0 : (v != v) = false := by simp
    by_cases h1 : s = 1
    · subst h1
      obtain rfl : b = true := by rw [← hb2]; simp
      clear hb2
      show Calls _ _ _ _ (IsB w (xs.set k ⟨v, p, t, nx, 2⟩) n true)
      go_enter Try.func20, Try.ntmps20
      go_wp2_with (first
        | (go_at_call 36; refine (HO.out _ H.out).mono ?_; rintro e w1 ⟨A1, c1', rfl, hown, hbel⟩; obtain ⟨hc1, hf1, hz1⟩ := olds hbel; obtain ⟨g, rfl, hge, hlt, r0, r1, r2, r3, r4⟩ := own_getO hown k _ HX.out; have f0 := hown.free (k * 5); have f1 := hown.free (k * 5 + 1); have f2 := hown.free (k * 5 + 2); have f3 := hown.free (k * 5 + 3); have f4 := hown.free (k * 5 + 4); have HW := Lib.hid hown; have HB := Lib.hid hbel; clear hown hbel)
        | (go_at_call 37; refine (HT.out _).mono ?_; rintro e w' ⟨rfl, rfl⟩)
        | (go_at_call 38; refine (rlater0 _ _).mono ?_; rintro e w' ⟨rfl, rfl⟩))
      go_ret2
      exact ⟨some ⟨g, 0, none⟩, c1', rfl, own_setf HW.out k _ ⟨v, p, t, nx, 2⟩ HX.out 4 (by omega) (.int .i64 2) rfl, below_set HB.out hge _⟩
    · by_cases h3 : s = 3
      · subst h3
        obtain rfl : b = true := by rw [← hb2]; simp
        clear hb2 h1
        show Calls _ _ _ _ (IsB w (xs.set k ⟨v, p, t, nx, 2⟩) n true)
        go_enter Try.func20, Try.ntmps20
        go_wp2_with (first
          | (go_at_call 36; refine (HO.out _ H.out).mono ?_; rintro e w1 ⟨A1, c1', rfl, hown, hbel⟩; obtain ⟨hc1, hf1, hz1⟩ := olds hbel; obtain ⟨g, rfl, hge, hlt, r0, r1, r2, r3, r4⟩ := own_getO hown k _ HX.out; have f0 := hown.free (k * 5); have f1 := hown.free (k * 5 + 1); have f2 := hown.free (k * 5 + 2); have f3 := hown.free (k * 5 + 3); have f4 := hown.free (k * 5 + 4); have HW := Lib.hid hown; have HB := Lib.hid hbel; clear hown hbel)
          | (go_at_call 37; refine (HT.out _).mono ?_; rintro e w' ⟨rfl, rfl⟩)
          | (go_at_call 38; refine (rlater0 _ _).mono ?_; rintro e w' ⟨rfl, rfl⟩))
        go_ret2
        exact ⟨some ⟨g, 0, none⟩, c1', rfl, own_setf HW.out k _ ⟨v, p, t, nx, 2⟩ HX.out 4 (by omega) (.int .i64 2) rfl, below_set HB.out hge _⟩
      · have g1 : (s != 1) = true := by simpa using h1
        have g3 : (s != 3) = true := by simpa using h3
        obtain rfl : b = false := by rw [← hb2]; simp [h1, h3]
        clear hb2 h1 h3
        show Calls _ _ _ _ (IsB w (xs.set k ⟨v, p, t, nx, s⟩) n false)
        go_enter Try.func20, Try.ntmps20
        go_wp2_with (first
          | (go_at_call 36; refine (HO.out _ H.out).mono ?_; rintro e w1 ⟨A1, c1', rfl, hown, hbel⟩; obtain ⟨hc1, hf1, hz1⟩ := olds hbel; have HW := Lib.hid hown; have HB := Lib.hid hbel; clear hown hbel)
          | (go_at_call 37; refine (HT.out _).mono ?_; rintro e w' ⟨rfl, rfl⟩)
          | (go_at_call 38; refine (rlater0 _ _).mono ?_; rintro e w' ⟨rfl, rfl⟩))
        go_ret2
        exact ⟨A1, c1', rfl, by rw [set_same HX.out]; exact HW.out, HB.out⟩
  · have g0 : (v != ver) = true := by simpa using hv
    obtain rfl : b = false := by rw [← hb2]; simp [hv]
    clear hb2 hv
    show Calls _ _ _ _ (IsB w (xs.set k ⟨v, p, t, nx, s⟩) n false)
    go_enter Try.func20, Try.ntmps20
    go_wp2_with (first
      | (go_at_call 36; refine (HO.out _ H.out).mono ?_; rintro e w1 ⟨A1, c1', rfl, hown, hbel⟩; obtain ⟨hc1, hf1, hz1⟩ := olds hbel; have HW := Lib.hid hown; have HB := Lib.hid hbel; clear hown hbel)
      | (go_at_call 37; refine (HT.out _).mono ?_; rintro e w' ⟨rfl, rfl⟩)
      | (go_at_call 38; refine (rlater0 _ _).mono ?_; rintro e w' ⟨rfl, rfl⟩))
    go_ret2
    exact ⟨A1, c1', rfl, by rw [set_same HX.out]; exact HW.out, HB.out⟩

theorem rrej_any (A : Option Addr) (c k n : Nat) (xs : List Outs) (hn : xs.length = n) (x : Outs) (ver : Int) (b : Bool) (hb' : rejB x ver = b) (w : World) (h : dO.At w A c xs) (hb : n * 40 ≤ 140737488355328) (hx : xs[k]? = some x) :
    Calls Try.prog 21 #[.slice A n c, .int .i64 k, .int .i64 ver] w (IsB w (xs.set k (if b = true then stateO x 3 else x)) n b) := by
  have H := Lib.hid h
  have hkn : k < n := by rw [← hn]; exact (List.getElem?_eq_some_iff.1 hx).1
  have hle : n ≤ c := by rw [← hn]; exact h.le
  have hmax := h.max
  have h0k : (0 : Int) ≤ (k : Int) := by omega
  obtain ⟨bA, oA, rfl, hbA, c0, c1, c2, c3, c4⟩ := at_getO h k x hx
  have HO := Lib.hid (fun W hW => own_any (some ⟨bA, oA, none⟩) c n xs hn W hW hb)
  have HT := Lib.hid (fun W => there_in (some ⟨bA, oA, none⟩) c n k W hkn hle hmax)
  have HX := Lib.hid hx
  clear h hn hx
  obtain ⟨v, p, t, nx, s⟩ := x
  have hb2 : decide (v = ver ∧ s = 1) = b := hb'
  clear hb'
  by_cases hv : v = ver
  · subst hv
    have g0 : (v != v) = false := by simp
    by_cases h1 : s = 1
    · subst h1
      obtain rfl : b = true := by rw [← hb2]; simp
      clear hb2
      show Calls _ _ _ _ (IsB w (xs.set k ⟨v, p, t, nx, 3⟩) n true)
      go_enter Try.func21, Try.ntmps21
      go_wp2_with (first
        | (go_at_call 36; refine (HO.out _ H.out).mono ?_; rintro e w1 ⟨A1, c1', rfl, hown, hbel⟩; obtain ⟨hc1, hf1, hz1⟩ := olds hbel; obtain ⟨g, rfl, hge, hlt, r0, r1, r2, r3, r4⟩ := own_getO hown k _ HX.out; have f0 := hown.free (k * 5); have f1 := hown.free (k * 5 + 1); have f2 := hown.free (k * 5 + 2); have f3 := hown.free (k * 5 + 3); have f4 := hown.free (k * 5 + 4); have HW := Lib.hid hown; have HB := Lib.hid hbel; clear hown hbel)
        | (go_at_call 37; refine (HT.out _).mono ?_; rintro e w' ⟨rfl, rfl⟩)
        | (go_at_call 38; refine (rlater0 _ _).mono ?_; rintro e w' ⟨rfl, rfl⟩))
      go_ret2
      exact ⟨some ⟨g, 0, none⟩, c1', rfl, own_setf HW.out k _ ⟨v, p, t, nx, 3⟩ HX.out 4 (by omega) (.int .i64 3) rfl, below_set HB.out hge _⟩
    · have g1 : (s != 1) = true := by simpa using h1
      obtain rfl : b = false := by rw [← hb2]; simp [h1]
      clear hb2 h1
      show Calls _ _ _ _ (IsB w (xs.set k ⟨v, p, t, nx, s⟩) n false)
      go_enter Try.func21, Try.ntmps21
      go_wp2_with (first
        | (go_at_call 36; refine (HO.out _ H.out).mono ?_; rintro e w1 ⟨A1, c1', rfl, hown, hbel⟩; obtain ⟨hc1, hf1, hz1⟩ := olds hbel; have HW := Lib.hid hown; have HB := Lib.hid hbel; clear hown hbel)
        | (go_at_call 37; refine (HT.out _).mono ?_; rintro e w' ⟨rfl, rfl⟩)
        | (go_at_call 38; refine (rlater0 _ _).mono ?_; rintro e w' ⟨rfl, rfl⟩))
      go_ret2
      exact ⟨A1, c1', rfl, by rw [set_same HX.out]; exact HW.out, HB.out⟩
  · have g0 : (v != ver) = true := by simpa using hv
    obtain rfl : b = false := by rw [← hb2]; simp [hv]
    clear hb2 hv
    show Calls _ _ _ _ (IsB w (xs.set k ⟨v, p, t, nx, s⟩) n false)
    go_enter Try.func21, Try.ntmps21
    go_wp2_with (first
      | (go_at_call 36; refine (HO.out _ H.out).mono ?_; rintro e w1 ⟨A1, c1', rfl, hown, hbel⟩; obtain ⟨hc1, hf1, hz1⟩ := olds hbel; have HW := Lib.hid hown; have HB := Lib.hid hbel; clear hown hbel)
      | (go_at_call 37; refine (HT.out _).mono ?_; rintro e w' ⟨rfl, rfl⟩)
      | (go_at_call 38; refine (rlater0 _ _).mono ?_; rintro e w' ⟨rfl, rfl⟩))
    go_ret2
    exact ⟨A1, c1', rfl, by rw [set_same HX.out]; exact HW.out, HB.out⟩

theorem rrev_any (A : Option Addr) (c k n : Nat) (xs : List Outs) (hn : xs.length = n) (x : Outs) (now : Int) (b : Bool) (hb' : decide (x.s = 3) = b) (w : World) (h : dO.At w A c xs) (hb : n * 40 ≤ 140737488355328) (hx : xs[k]? = some x) :
    Calls Try.prog 22 #[.slice A n c, .int .i64 k, .int .i64 now] w (IsB w (xs.set k (if b = true then reviveO x now else x)) n b) := by
  have H := Lib.hid h
  have hkn : k < n := by rw [← hn]; exact (List.getElem?_eq_some_iff.1 hx).1
  have hle : n ≤ c := by rw [← hn]; exact h.le
  have hmax := h.max
  have h0k : (0 : Int) ≤ (k : Int) := by omega
  obtain ⟨bA, oA, rfl, hbA, c0, c1, c2, c3, c4⟩ := at_getO h k x hx
  have HO := Lib.hid (fun W hW => own_any (some ⟨bA, oA, none⟩) c n xs hn W hW hb)
  have HT := Lib.hid (fun W => there_in (some ⟨bA, oA, none⟩) c n k W hkn hle hmax)
  have HX := Lib.hid hx
  clear h hn hx
  obtain ⟨v, p, t, nx, s⟩ := x
  have hb2 : decide (s = 3) = b := hb'
  clear hb'
  by_cases h3 : s = 3
  · subst h3
    obtain rfl : b = true := by rw [← hb2]; simp
    clear hb2
    show Calls _ _ _ _ (IsB w (xs.set k ⟨v, p, 0, tickI now, 1⟩) n true)
    go_enter Try.func22, Try.ntmps22
    go_wp2_with (first
      | (go_at_call 36; refine (HO.out _ H.out).mono ?_; rintro e w1 ⟨A1, c1', rfl, hown, hbel⟩; obtain ⟨hc1, hf1, hz1⟩ := olds hbel; obtain ⟨g, rfl, hge, hlt, r0, r1, r2, r3, r4⟩ := own_getO hown k _ HX.out; have f0 := hown.free (k * 5); have f1 := hown.free (k * 5 + 1); have f2 := hown.free (k * 5 + 2); have f3 := hown.free (k * 5 + 3); have f4 := hown.free (k * 5 + 4); have HW := Lib.hid hown; have HB := Lib.hid hbel; clear hown hbel)
      | (go_at_call 37; refine (HT.out _).mono ?_; rintro e w' ⟨rfl, rfl⟩)
      | (go_at_call 38; refine (rlater0 _ _).mono ?_; rintro e w' ⟨rfl, rfl⟩))
    go_ret2
    refine ⟨some ⟨g, 0, none⟩, c1', rfl, ?_, below_set (below_set (below_set HB.out hge _) hge _) hge _⟩
    have z1 := own_setf HW.out k _ ⟨v, p, t, nx, 1⟩ HX.out 4 (by omega) (.int .i64 1) rfl
    have hk1 : k < xs.length := (List.getElem?_eq_some_iff.1 HX.out).1
    have z2 := own_setf z1 k _ ⟨v, p, 0, nx, 1⟩ (List.getElem?_set_self hk1) 2 (by omega) (.int .i64 0) rfl
    have z3 := own_setf z2 k _ ⟨v, p, 0, tickI now, 1⟩ (List.getElem?_set_self (by rw [List.length_set]; exact hk1)) 3 (by omega) (.int .i64 (tickI now)) rfl
    rw [List.set_set, List.set_set] at z3
    exact z3
  · have g1 : (s != 3) = true := by simpa using h3
    obtain rfl : b = false := by rw [← hb2]; simp [h3]
    clear hb2 h3
    show Calls _ _ _ _ (IsB w (xs.set k ⟨v, p, t, nx, s⟩) n false)
    go_enter Try.func22, Try.ntmps22
    go_wp2_with (first
      | (go_at_call 36; refine (HO.out _ H.out).mono ?_; rintro e w1 ⟨A1, c1', rfl, hown, hbel⟩; obtain ⟨hc1, hf1, hz1⟩ := olds hbel; have HW := Lib.hid hown; have HB := Lib.hid hbel; clear hown hbel)
      | (go_at_call 37; refine (HT.out _).mono ?_; rintro e w' ⟨rfl, rfl⟩)
      | (go_at_call 38; refine (rlater0 _ _).mono ?_; rintro e w' ⟨rfl, rfl⟩))
    go_ret2
    exact ⟨A1, c1', rfl, by rw [set_same HX.out]; exact HW.out, HB.out⟩

def pickI (c n : Int) : Int := if c < 0 then (-(c + 1)) % n else c % n
theorem pick_neg (c n : Int) (hc : c < 0) : -((c + 1).tmod n) = (-(c + 1)) % n := by
  rw [← Int.neg_tmod, Int.tmod_eq_emod_of_nonneg (by omega)]
theorem pick_any (c n : Int) (w : World) (h : -9223372036854775808 ≤ c) (h' : c ≤ 9223372036854775807) (hn : 0 < n) : Calls Try.prog 10 #[.int .i64 c, .int .i64 n] w fun e w' => e = .returned (.int .i64 (pickI c n)) ∧ w' = w := by
  by_cases hc : c < 0
  · rw [show pickI c n = (-(c + 1)) % n from if_pos hc]
    go_enter Try.func10, Try.ntmps10
    go_wp2
    go_ret
    exact ⟨ret1 (pick_neg c n hc), rfl⟩
  · rw [show pickI c n = c % n from if_neg hc]
    go_enter Try.func10, Try.ntmps10
    go_wp2
    go_ret
    exact ⟨rfl, rfl⟩
theorem pick_bd (c n : Int) (hn : 0 < n) : 0 ≤ pickI c n ∧ pickI c n < n := by
  unfold pickI
  split
  · exact ⟨Int.emod_nonneg _ (by omega), Int.emod_lt_of_pos _ hn⟩
  · exact ⟨Int.emod_nonneg _ (by omega), Int.emod_lt_of_pos _ hn⟩
def Pick (a n r : Int) : Prop := (-9223372036854775808 ≤ a ∧ a ≤ 9223372036854775807) ∧ 0 < n ∧ pickI a n = r
theorem pick_of {a n r : Int} (W : World) (h : Pick a n r) : Calls Try.prog 10 #[.int .i64 a, .int .i64 n] W fun e w' => e = .returned (.int .i64 r) ∧ W = w' := by
  obtain ⟨h1, h2, rfl⟩ := h
  exact kp (pick_any a n W h1.1 h1.2 h2)
end Go.Proofs.Ytgeocadpdpjmjaa.Out
