/- MarketLost: its walk. -/
import Derived.Test.YtkmmiiaadoinpaaMarM
namespace Go.Proofs.Ytkmmiiaadoinpaa.Mar
open Go.RowKit Go.Proofs.Ytkmmiiaadoinpaa.Mem

theorem mails_n (A : Option Addr) (c : Nat) (rs : List Mail) (xs : List Mail) (n : Nat) (hx : mailsL rs = xs) (hn : xs.length = n) (w : World) (h : dM.At w A c rs) (hr : ∀ r ∈ rs, R64 r) :
    Calls Try.prog 10 #[.slice A rs.length c] w (Is dM 26 w xs n) := by
  subst hx; subst hn
  exact mails_any A c rs w h hr
theorem same_yes {A B : Option Addr} {c k n : Nat} {xs : List Mail} (hn : xs.length = n) {w : World} (hx : dM.At w A c xs) (hy : dM.At w B k xs) :
    Calls Try.prog 13 #[.slice A n c, .slice B n k] w fun e w' => e = .returned (.bool true) ∧ ∃ m, w' = w.drewN m := by
  subst hn
  have q := same_any A B c k xs xs w hx hy
  rw [decide_eq_true rfl] at q
  exact q
theorem here_in (xs : List Mail) (k : Nat) (hk : k < xs.length) : here xs k = true := decide_eq_true (by omega)
theorem takeL_in (xs : List Mail) (k : Nat) (hk : k < xs.length) : takeL xs k = xs.eraseIdx k := by
  unfold takeL; rw [if_pos (here_in xs k hk), Int.toNat_natCast]
theorem takeM_in (xs : List Mail) (k : Nat) (m : Mail) (hm : xs[k]? = some m) : takeM xs k = m := by
  have hk : k < xs.length := (List.getElem?_eq_some_iff.1 hm).1
  unfold takeM; rw [if_pos (here_in xs k hk), Int.toNat_natCast, List.getD_eq_getElem?_getD, hm]; rfl
theorem lose_n (A : Option Addr) (c k p : Nat) (xs ys : List Mail) (hn : xs.length = p + 1) (hk : k ≤ p) (hy : xs.eraseIdx k = ys) (hp : p ≤ 100) (W : World) (h : dM.At W A c xs) : Calls Try.prog 17 #[.slice A (p + 1) c, .int .i64 k] W (IsN W ys p 0) := by
  subst hy
  have q := lose_any A c xs k W h (by omega)
  rw [takeL_in xs k (by omega), if_pos (here_in xs k (by omega)), hn] at q
  refine q.mono fun e w' ⟨A', c', he, ho, hb⟩ => ⟨A', c', ?_, ho, hb⟩
  rw [he, List.length_eraseIdx, if_pos (by omega), hn]; rfl
theorem copy_n (A : Option Addr) (c k p : Nat) (xs : List Mail) (m : Mail) (hn : xs.length = p + 1) (hm : xs[k]? = some m) (hp : p < 99) (W : World) (h : dM.At W A c xs) : Calls Try.prog 15 #[.slice A (p + 1) c, .int .i64 k] W (IsN W (xs ++ [m]) (p + 2) 0) := by
  have hk : k < xs.length := (List.getElem?_eq_some_iff.1 hm).1
  have q := copy_any A c xs k W h (by omega)
  unfold copyL copyE postL postE at q
  rw [if_pos (here_in xs k hk), if_pos (here_in xs k hk), if_neg (by omega), if_neg (by omega), takeM_in xs k m hm, hn] at q
  refine q.mono fun e w' ⟨A', c', he, ho, hb⟩ => ⟨A', c', ?_, ho, hb⟩
  rw [he, List.length_append, hn]; rfl
/-- A mail, a list of n, and that it was there. -/
def TookN (w : World) (m : Mail) (xs : List Mail) (n : Nat) (r : Ending) (w' : World) : Prop :=
  ∃ A c, r = .returned (.tuple #[.agg #[.int .i64 m.s, .int .i64 m.v, .int .i64 m.p], .slice A n c, .bool true]) ∧ dM.Own 26 w' w.heap.size A c xs ∧ Below w.heap.size w w'
theorem take_n (A : Option Addr) (c k p : Nat) (xs ys : List Mail) (m : Mail) (hn : xs.length = p + 1) (hm : xs[k]? = some m) (hy : xs.eraseIdx k = ys) (hp : p ≤ 100) (W : World) (h : dM.At W A c xs) : Calls Try.prog 19 #[.slice A (p + 1) c, .int .i64 k] W (TookN W m ys p) := by
  have hk : k < xs.length := (List.getElem?_eq_some_iff.1 hm).1
  subst hy
  have q := take_any A c xs k W h (by omega)
  rw [takeL_in xs k hk, here_in xs k hk, takeM_in xs k m hm, hn] at q
  refine q.mono fun e w' ⟨A', c', he, ho, hb⟩ => ⟨A', c', ?_, ho, hb⟩
  rw [he, List.length_eraseIdx, if_pos (by omega), hn]; rfl
theorem lose_nil (a : Int) (W : World) : Calls Try.prog 17 #[.slice none 0 0, .int .i64 a] W (IsN W [] 0 1) := by
  have q := lose_any none 0 [] a W En.At.none_ (by decide)
  have hh : ¬ here [] a = true := by unfold here; simp
  unfold takeL at q
  rw [if_neg hh, if_neg hh] at q
  exact q

/-- 'l[k:]', its address behind one name. -/
def fromA (a : Option Addr) (cap l : Nat) : Option Addr := if cap = l then a else a.map (·.add (l * 3))
theorem slice_from (a : Option Addr) (len cap l : Nat) (h : l ≤ len) (W : World) : (Instr.slice 23 (.slice a len cap) (some (.int .i64 (l : Int))) none none).run Try.prog W = .ok (.slice (fromA a cap l) (len - l) (cap - l)) W := by
  have hs : (sizeOf (Try.prog.elem 23)).run Try.prog W = .ok 3 W := by kernel_rfl
  rw [run_slice_l W 23 a len cap (by kernel_rfl) .i64 l (by omega) (by omega), hs]
  simp [Result.andThen, sliced, fromA]
theorem at_from {a : Option Addr} {cap l : Nat} {xs : List Mail} {W : World} (h : dM.At W a cap xs) (hl : l ≤ xs.length) : dM.At W (fromA a cap l) (cap - l) (xs.drop l) := by
  cases a with
  | none =>
    have hc := h.nil rfl
    have hx : xs = [] := List.eq_nil_of_length_eq_zero (by have := h.le; omega)
    subst hx
    subst hc
    have : fromA none 0 l = none := by unfold fromA; split <;> rfl
    rw [this, Nat.zero_sub, List.drop_nil]
    exact En.At.none_
  | some ad =>
    by_cases h0 : 0 < xs.length
    · obtain ⟨b, off, e, _, _⟩ := h.cell h0
      injection e with e
      subst e
      refine h.drop l hl _ ?_
      unfold fromA
      split
      · rfl
      · rw [Option.map_some, Addr.add_lit]; rfl
    · have hx : xs = [] := List.eq_nil_of_length_eq_zero (by omega)
      subst hx
      rw [List.drop_nil]
      refine ⟨Nat.zero_le _, by have := h.max; omega, fun e => ?_, fun h => absurd h (Nat.lt_irrefl 0)⟩
      unfold fromA at e
      split at e <;> cases e

set_option maxRecDepth 100000 in
set_option maxHeartbeats 1000000 in
theorem lost_any (A : Option Addr) (c : Nat) (rs : List Mail) (at_ : Int) (w : World) (h : dM.At w A c rs) (hr : ∀ r ∈ rs, R64 r) (b0 : -9223372036854775808 ≤ at_ ∧ at_ ≤ 9223372036854775807) :
    Calls Try.prog 8 #[.slice A rs.length c, .int .i64 at_] w fun e w' => e = .returned (.bool true) ∧ Below w.heap.size w w' := by
  have H := Lib.hid h
  have hml := mailsL_len rs
  obtain ⟨xs, hxs⟩ : ∃ xs, mailsL rs = xs := ⟨_, rfl⟩
  obtain ⟨n, hn⟩ : ∃ n, xs.length = n := ⟨_, rfl⟩
  rw [hxs, hn] at hml
  have HC := Lib.hid (fun W hW => mails_n A c rs xs n hxs hn W hW hr)
  have HN := Lib.hid hn
  clear h hr hxs hn
  cases n with
  | zero =>
    clear HN hml
    go_enter Try.func8, Try.ntmps8
    go_wp2_with (first
      | (go_at_call 17; refine (lose_nil _ _).mono ?_; rintro e w3 ⟨A3, c3, rfl, o3, b3⟩; have B3 := Lib.hid b3; clear o3 b3)
      | (go_at_call 10; refine (HC.out _ (H.out.below B1.out)).mono ?_; rintro e w2 ⟨A2, c2, rfl, o2, b2⟩; have B2 := Lib.hid b2; clear o2 b2)
      | (go_at_call 9; refine (awake_any _).mono ?_; rintro e w1 ⟨rfl, b1⟩; have B1 := Lib.hid b1; clear b1))
    go_ret
    exact ⟨rfl, below_step (below_step B1.out B2.out) B3.out⟩
  | succ p =>
    have P0 : Pick at_ ((p : Int) + 1) (pickI at_ ((p : Int) + 1)) := ⟨b0, by omega, rfl⟩
    have d0 := pick_bd at_ ((p : Int) + 1) (by omega)
    generalize pickI at_ ((p : Int) + 1) = y0 at P0 d0
    obtain ⟨k, rfl⟩ : ∃ k : Nat, y0 = k := ⟨y0.toNat, by omega⟩
    have hk : k ≤ p := by omega
    have hm : xs[k]? = some (xs[k]'(by have := HN.out; omega)) := List.getElem?_eq_getElem _
    generalize xs[k]'(by have := HN.out; omega) = m at hm
    have HM := Lib.hid hm
    clear hm b0 d0
    have C1 := Lib.hid (fun A c W hW => lose_n A c k p xs _ HN.out hk rfl (by omega) W hW)
    have C2 := Lib.hid (fun A c W hW => copy_n A c k p xs m HN.out HM.out (by omega) W hW)
    have C3 := Lib.hid (fun A c W hW => lose_n A c (p + 1) (p + 1) (xs ++ [m]) xs (by have := HN.out; simp; omega) (Nat.le_refl _) (by have := HN.out; rw [List.eraseIdx_append_of_length_le (by omega), this, Nat.sub_self]; simp) (by omega) W hW)
    have C4 := Lib.hid (fun A c W hW => take_n A c k p xs _ m HN.out HM.out rfl (by omega) W hW)
    go_enter Try.func8, Try.ntmps8
    go_wp2_with (first
      | (go_at_call 19; refine (C4.out _ _ _ ((O2.out.at_.below B3.out).below B4.out |>.below B5.out)).mono ?_; rintro e w6 ⟨A6, c6, rfl, o6, b6⟩; have O6 := Lib.hid o6; have B6 := Lib.hid b6; clear o6 b6)
      | (go_at_call 17; refine (C3.out _ _ _ O4.out.at_).mono ?_; rintro e w5 ⟨A5, c5, rfl, o5, b5⟩; have O5 := Lib.hid o5; have B5 := Lib.hid b5; clear o5 b5)
      | (go_at_call 15; refine (C2.out _ _ _ (O2.out.at_.below B3.out)).mono ?_; rintro e w4 ⟨A4, c4, rfl, o4, b4⟩; have O4 := Lib.hid o4; have B4 := Lib.hid b4; clear o4 b4)
      | (go_at_call 17; refine (C1.out _ _ _ O2.out.at_).mono ?_; rintro e w3 ⟨A3, c3, rfl, o3, b3⟩; have O3 := Lib.hid o3; have B3 := Lib.hid b3; clear o3 b3)
      | (go_at_call 14; refine (pick_of _ (by assumption)).mono ?_; rintro e w' ⟨rfl, rfl⟩)
      | (go_at_call 10; refine (HC.out _ (H.out.below B1.out)).mono ?_; rintro e w2 ⟨A2, c2, rfl, o2, b2⟩; have O2 := Lib.hid o2; have B2 := Lib.hid b2; clear o2 b2)
      | (go_at_call 9; refine (awake_any _).mono ?_; rintro e w1 ⟨rfl, b1⟩; have B1 := Lib.hid b1; clear b1))
    have BB : Below w.heap.size w w6 := below_step (below_step (below_step (below_step (below_step B1.out B2.out) B3.out) B4.out) B5.out) B6.out
    have T2 := Lib.hid ((((O2.out.at_.below B3.out).below B4.out).below B5.out).below B6.out)
    have T3 := Lib.hid (((O3.out.at_.below B4.out).below B5.out).below B6.out)
    have T4 := Lib.hid ((O4.out.at_.below B5.out).below B6.out)
    have T5 := Lib.hid (O5.out.at_.below B6.out)
    have T6 := Lib.hid O6.out.at_
    have BH := Lib.hid BB
    clear BB
    have hlen : (xs.eraseIdx k).length = p := by rw [List.length_eraseIdx, if_pos (by have := HN.out; omega), HN.out]; rfl
    obtain ⟨b2, off2, e2, hb2, q0, q1, q2⟩ := at_getM T2.out k m HM.out
    subst e2
    obtain ⟨b4, off4, e4, hb4, r0, r1, r2⟩ := at_getM T4.out (p + 1) m (by rw [List.getElem?_append_right (by rw [HN.out]; exact Nat.le_refl _), HN.out, Nat.sub_self]; rfl)
    subst e4
    have BW := below_alloc (Below.refl w6.heap.size w6) (.cells #[.int .i64 m.s, .int .i64 m.v, .int .i64 m.p] 26)
    have S1 := Lib.hid (fun n => same_yes hlen ((T3.out.below BW).drewN n) ((T6.out.below BW).drewN n))
    have S2 := Lib.hid (fun n => same_yes HN.out ((T5.out.below BW).drewN n) ((T2.out.below BW).drewN n))
    have HT3 : Hid (((xs.eraseIdx k).take k).length = k) := Lib.hid (by rw [List.length_take, hlen, Nat.min_eq_left hk])
    have HT4 : Hid ((xs.eraseIdx k).take k = xs.take k) := Lib.hid (by rw [List.eraseIdx_eq_take_drop_succ, List.take_append_of_le_length (by rw [List.length_take, HN.out]; omega), List.take_take, Nat.min_self])
    have S3 := Lib.hid (fun n => same_yes HT3.out (((T3.out.take k (by omega)).below BW).drewN n) (by rw [HT4.out]; exact (((T2.out.take k (by have := HN.out; omega)).below BW).drewN n)))
    have HT5 : Hid ((xs.eraseIdx k).drop k = xs.drop (k + 1)) := Lib.hid (by rw [List.eraseIdx_eq_take_drop_succ, List.drop_append, List.length_take, HN.out, List.drop_of_length_le (by rw [List.length_take, HN.out]; omega), List.nil_append, Nat.min_eq_left (by omega), Nat.sub_self, List.drop_zero])
    have HT6 : Hid (((xs.eraseIdx k).drop k).length = p - k) := Lib.hid (by rw [List.length_drop, hlen])
    have hs3 := slice_from A3 p c3 k hk
    have hs2 := slice_from (some ⟨b2, off2, none⟩) (p + 1) c2 (k + 1) (by omega)
    have F3 := at_from T3.out (l := k) (by omega)
    have F2 := at_from T2.out (l := k + 1) (by have := HN.out; omega)
    rw [← HT5.out] at F2
    rw [Nat.add_sub_add_right] at hs2
    rw [show (((k + 1 : Nat)) : Int) = (k : Int) + 1 by omega] at hs2
    generalize fromA A3 c3 k = X3 at hs3 F3
    generalize fromA (some ⟨b2, off2, none⟩) c2 (k + 1) = X2 at hs2 F2
    have S4 := Lib.hid (fun n => same_yes HT6.out ((F3.below BW).drewN n) ((F2.below BW).drewN n))
    have hc2 : p + 1 ≤ c2 := by have := T2.out.le; rw [HN.out] at this; exact this
    have hc3 : p ≤ c3 := by have := T3.out.le; rw [hlen] at this; exact this
    clear hlen BW F2 F3
    have g9 : ((p : Int) + 2 == (p : Int) + 1 + 1) = true := by simp; omega
    refine wp_region_quiet_lit (by kernel_rfl) (by kernel_rfl) ?_
    simp only [List.append]
    repeat (go_big_quiet_step ((go_at_call 13; first | (with_reducible exact Calls.quiet_of (S1.out _)) | (with_reducible exact Calls.quiet_of (S2.out _)) | (with_reducible exact Calls.quiet_of (S3.out _)) | (with_reducible exact Calls.quiet_of (S4.out _)))))
    refine wpQuiet_nil ?_
    intro _ hw'
    obtain ⟨nq, hw''⟩ := hw'
    subst hw''
    go_wp2
    go_ret
    exact ⟨rfl, below_drewN (below_alloc BH.out _) _⟩
end Go.Proofs.Ytkmmiiaadoinpaa.Mar
