/- The reference's Fresh, and the program's: one answer. -/
import Derived.Test.YtjehhpppihmpgaaBooR
namespace Go.Proofs.Ytjehhpppihmpgaa.Boo
open Go.RowKit Go.Proofs.Ytjehhpppihmpgaa.Mem

theorem fresh_bad (A : Option Addr) (c m : Nat) (s : ByteArray) (n : Int) (w : World) (hs : s.size ≤ 9223372036854775807) (hk : okF s n = false) :
    Calls Try.prog 23 #[.slice A m c, .string s, .int .i64 n] w (MadeF w [] 0 false 1) := by
  have HN := Lib.hid (fun W => name_any s W hs)
  unfold okF at hk
  cases hn : nameB s with
  | false =>
    rw [hn] at HN
    clear hk hn hs
    go_enter Try.func23, Try.ntmps23
    go_wp2_with (go_at_call 29; refine (HN.out _).mono ?_; rintro e w1 ⟨rfl, hbel⟩; have HB := Lib.hid (below_step (below_alloc (Below.refl _ _) _) hbel); clear hbel)
    refine bodyPost_ret (v := .tuple #[.slice none 0 0, .bool false, .int .i64 1]) (by simp [results, Try.results23, go_sem]) rfl ⟨none, 0, rfl, En.At.none_, HB.out⟩
  | true =>
    rw [hn] at HN
    rw [hn, Bool.true_and, decide_eq_false_iff_not] at hk
    clear hn hs
    by_cases g0 : n < 1
    · clear hk
      go_enter Try.func23, Try.ntmps23
      go_wp2_with (go_at_call 29; refine (HN.out _).mono ?_; rintro e w1 ⟨rfl, hbel⟩; have HB := Lib.hid (below_step (below_alloc (Below.refl _ _) _) hbel); clear hbel)
      refine bodyPost_ret (v := .tuple #[.slice none 0 0, .bool false, .int .i64 1]) (by simp [results, Try.results23, go_sem]) rfl ⟨none, 0, rfl, En.At.none_, HB.out⟩
    by_cases g1 : 1000000000000 < n
    · clear hk
      go_enter Try.func23, Try.ntmps23
      go_wp2_with (go_at_call 29; refine (HN.out _).mono ?_; rintro e w1 ⟨rfl, hbel⟩; have HB := Lib.hid (below_step (below_alloc (Below.refl _ _) _) hbel); clear hbel)
      refine bodyPost_ret (v := .tuple #[.slice none 0 0, .bool false, .int .i64 1]) (by simp [results, Try.results23, go_sem]) rfl ⟨none, 0, rfl, En.At.none_, HB.out⟩
    exact absurd ⟨by omega, by omega⟩ hk
theorem rfresh_bad (A : Option Addr) (c m : Nat) (s : ByteArray) (n : Int) (w : World) (hs : s.size ≤ 9223372036854775807) (hk : okF s n = false) :
    Calls Try.prog 24 #[.slice A m c, .string s, .int .i64 n] w (MadeF w [] 0 false 1) := by
  have HN := Lib.hid (fun W => rname_any s W hs)
  unfold okF at hk
  cases hn : nameB s with
  | false =>
    rw [hn] at HN
    clear hk hn hs
    go_enter Try.func24, Try.ntmps24
    go_wp2_with (go_at_call 32; refine (HN.out _).mono ?_; rintro e w1 ⟨rfl, hbel⟩; have HB := Lib.hid (hbel); clear hbel)
    refine bodyPost_ret (v := .tuple #[.slice none 0 0, .bool false, .int .i64 1]) (by simp [results, Try.results24, go_sem]) rfl ⟨none, 0, rfl, En.At.none_, HB.out⟩
  | true =>
    rw [hn] at HN
    rw [hn, Bool.true_and, decide_eq_false_iff_not] at hk
    clear hn hs
    by_cases g0 : n < 1
    · clear hk
      go_enter Try.func24, Try.ntmps24
      go_wp2_with (go_at_call 32; refine (HN.out _).mono ?_; rintro e w1 ⟨rfl, hbel⟩; have HB := Lib.hid (hbel); clear hbel)
      refine bodyPost_ret (v := .tuple #[.slice none 0 0, .bool false, .int .i64 1]) (by simp [results, Try.results24, go_sem]) rfl ⟨none, 0, rfl, En.At.none_, HB.out⟩
    by_cases g1 : 1000000000000 < n
    · clear hk
      go_enter Try.func24, Try.ntmps24
      go_wp2_with (go_at_call 32; refine (HN.out _).mono ?_; rintro e w1 ⟨rfl, hbel⟩; have HB := Lib.hid (hbel); clear hbel)
      refine bodyPost_ret (v := .tuple #[.slice none 0 0, .bool false, .int .i64 1]) (by simp [results, Try.results24, go_sem]) rfl ⟨none, 0, rfl, En.At.none_, HB.out⟩
    exact absurd ⟨by omega, by omega⟩ hk
/-- What Fresh answers at a source and a number that are right. -/
def Fr (s : ByteArray) (n : Int) (xs D : List Seen) (k : Nat) (b : Bool) (e : Int) : Prop := D.length = k ∧
  ((fI (soN s) xs = -1 ∧ 8 ≤ xs.length ∧ D = [] ∧ b = false ∧ e = 50) ∨ (fI (soN s) xs = -1 ∧ xs.length < 8 ∧ D = xs ++ [⟨s, n⟩] ∧ b = true ∧ e = 0) ∨
    (∃ (j : Nat) (x : Seen), fI (soN s) xs = j ∧ xs[j]? = some x ∧ ((n ≤ x.n ∧ D = xs ∧ b = false ∧ e = 0) ∨ (x.n < n ∧ D = xs.set j ⟨s, n⟩ ∧ b = true ∧ e = 0))))
theorem fr_has (s : ByteArray) (n : Int) (xs : List Seen) : ∃ D k b e, Fr s n xs D k b e := by
  by_cases hf : fI (soN s) xs = -1
  · by_cases hl : 8 ≤ xs.length
    · exact ⟨[], _, _, _, rfl, .inl ⟨hf, hl, rfl, rfl, rfl⟩⟩
    · exact ⟨_, _, _, _, rfl, .inr (.inl ⟨hf, by omega, rfl, rfl, rfl⟩)⟩
  · obtain ⟨j, x, hj, hx, _⟩ := fI_get hf
    by_cases hn : n ≤ x.n
    · exact ⟨_, _, _, _, rfl, .inr (.inr ⟨j, x, hj, hx, .inl ⟨hn, rfl, rfl, rfl⟩⟩)⟩
    · exact ⟨_, _, _, _, rfl, .inr (.inr ⟨j, x, hj, hx, .inr ⟨by omega, rfl, rfl, rfl⟩⟩)⟩
theorem fr_small {s : ByteArray} {n : Int} {xs D : List Seen} {k : Nat} {b : Bool} {e : Int} (h : Fr s n xs D k b e) (hx : xs.length ≤ 8) : k ≤ 8 := by
  obtain ⟨rfl, h | h | ⟨j, x, _, _, h | h⟩⟩ := h
  · rw [h.2.2.1]; decide
  · rw [h.2.2.1, List.length_append]; have := h.2.1; simp; omega
  · rw [h.2.1]; exact hx
  · rw [h.2.1, List.length_set]; exact hx
theorem litN (w : World) (y : Seen) : dN.At (w.alloc (.cells #[.string y.s, .int .i64 y.n] 67)) (some ⟨w.heap.size, 0, none⟩) 1 [y] :=
  (En.Own.lit dN w w.heap.size 67 #[.string y.s, .int .i64 y.n] [y] (Nat.le_refl _) (by simp) rfl).at_
theorem rfresh_any (A : Option Addr) (c m : Nat) (xs : List Seen) (hm : xs.length = m) (s : ByteArray) (n : Int) (w : World) (h : dN.At w A c xs) (hb : m * 24 ≤ 140737488355328) (hs : s.size ≤ 9223372036854775807) (hk : okF s n = true)
    (D : List Seen) (k : Nat) (b : Bool) (er : Int) (hF : Fr s n xs D k b er) :
    Calls Try.prog 24 #[.slice A m c, .string s, .int .i64 n] w (MadeF w D k b er) := by
  obtain ⟨i0, hi, iz, isz, iby⟩ := info_parts info67
  have HN := Lib.hid (fun W => rname_any s W hs)
  unfold okF at hk
  rw [Bool.and_eq_true, decide_eq_true_iff] at hk
  obtain ⟨hn1, g0, g1⟩ := hk
  rw [hn1] at HN
  have H := Lib.hid h
  have hle : m ≤ c := by rw [← hm]; exact h.le
  have hmax := h.max
  have HL := Lib.hid hm
  have HF := Lib.hid hF
  have hg0 : ¬ (n < 1) := by omega
  have hg1 : ¬ (1000000000000 < n) := by omega
  clear h hm hn1 hs hF
  go_enter Try.func24, Try.ntmps24
  go_wp2_with (first
    | (go_at_call 32; refine (HN.out _).mono ?_; rintro e w1 ⟨rfl, hbel⟩; have HB := Lib.hid hbel; have HA := Lib.hid (H.out.below hbel); clear hbel)
    | (at_builtin; refine wpList_app dN _ rfl _ _ 43 rfl w1.heap.size 67 i0 _ 24 Try.underlying43 hi iz isz iby rfl none 0 0 [] rfl rfl (En.Own.none_ _ _ _) A c m xs rfl HL.out.symm HA.out (by have := HL.out; simp; omega) (by have := HL.out; simp; omega) (Nat.le_refl _) ?_
       rw [List.nil_append, HL.out]
       intro A2 c2 w2 hown hg hat
       have HO := Lib.hid hown
       have HB2 := Lib.hid (below_grown (Below.refl _ _) hg (fun k hk => by simp [Value.ownBlock] at hk))
       have HZ := Lib.hid HB.out.size
       clear hown hg hat))
  have HA2 := Lib.hid (HA.out.below HB2.out)
  have HBB := Lib.hid (below_step HB.out HB2.out)
  have hl2 := HO.out.at_.le
  have hm2 := HO.out.at_.max
  rw [HL.out] at hl2
  go_loop [10] (fun iv => ∃ i : Nat, i ≤ m ∧ iv = .int .i64 i ∧ Hid (∀ j y, j < i → xs[j]? = some y → soN s y = false)) (fun iv => m - (intOf iv).toNat)
  case atStart => exact ⟨0, Nat.zero_le _, rfl, fun j y hj => absurd hj (Nat.not_lt_zero _)⟩
  case round =>
    obtain ⟨i, hk, rfl, HQ⟩ := hrel
    by_cases hlt : i < m
    · have hx : xs[i]? = some (xs[i]'(by have := HL.out; omega)) := List.getElem?_eq_getElem _
      obtain ⟨g, off, rfl, hbl, c0, c1⟩ := at_getN HA2.out i _ hx
      obtain ⟨g', rfl, hge, hlt', r0, r1⟩ := own_getN HO.out i _ hx
      have f1 := HO.out.free (i * 2 + 1)
      generalize xs[i]'(by have := HL.out; omega) = x at c0 c1 r0 r1 hx
      have HX := Lib.hid hx
      clear hx
      cases hb : soN s x with
      | false =>
        have g2 : (x.s.toList == s.toList) = false := hb
        have HN2 := Lib.hid hb
        clear hb
        go_wp2
        go_round
        case rel => exact ⟨i + 1, by omega, by go_num, Lib.hid (fI_step HX.out HN2.out HQ.out)⟩
        case measure => simp [intOf]; omega
      | true =>
        have g2 : (x.s.toList == s.toList) = true := hb
        have hfi := fI_hit HX.out hb HQ.out
        have hxs : x.s = s := eqS_eq hb
        obtain ⟨hDk, hF⟩ := HF.out
        rw [hfi] at hF
        clear hb
        have hF2 : (n ≤ x.n ∧ D = xs ∧ b = false ∧ er = 0) ∨ (x.n < n ∧ D = xs.set i ⟨s, n⟩ ∧ b = true ∧ er = 0) := by
          rcases hF with h | h | ⟨j, y, hj, hy, h⟩
          · have := h.1; omega
          · have := h.1; omega
          · have e : i = j := by omega
            subst e
            rw [HX.out] at hy
            cases hy
            exact h
        clear hF hfi
        rcases hF2 with ⟨hn, rfl, rfl, rfl⟩ | ⟨hn, hD, rfl, rfl⟩
        · have hn' : ¬ (x.n < n) := by omega
          have HD := Lib.hid (hDk.symm.trans HL.out)
          have HO1 := Lib.hid HO.out.at_
          clear hDk
          go_wp2
          rw [HD.out]
          refine bodyPost_ret (v := .tuple #[.slice (some ⟨g', 0, none⟩) m c2, .bool false, .int .i64 0]) (by simp [results, Try.results24, go_sem]) rfl ⟨_, _, rfl, HO1.out, HBB.out⟩
        · have HS := Lib.hid (own_setf HO.out i x (⟨s, n⟩ : Seen) HX.out 1 (by decide) (.int .i64 n) (by show [Value.string x.s, Value.int .i64 n] = [Value.string s, Value.int .i64 n]; rw [hxs]))
          have HD : Hid (k = m) := Lib.hid (by rw [← hDk, hD, List.length_set]; exact HL.out)
          have HDD := Lib.hid hD
          clear hDk hD hxs
          go_wp2
          rw [HD.out, HDD.out]
          refine bodyPost_ret (v := .tuple #[.slice (some ⟨g', 0, none⟩) m c2, .bool true, .int .i64 0]) (by simp [results, Try.results24, go_sem]) rfl ⟨_, _, rfl, HS.out.at_, below_set HBB.out (by have := HZ.out; show w.heap.size ≤ g'; omega) _⟩
    · obtain rfl : i = m := by omega
      have hfi : fI (soN s) xs = -1 := fI_none (p := soN s) (xs := xs) (fun j y hj hy => HQ.out j y (by have := HL.out; omega) hy)
      obtain ⟨hDk, hF⟩ := HF.out
      rw [hfi, HL.out] at hF
      have hF2 : (8 ≤ i ∧ D = [] ∧ b = false ∧ er = 50) ∨ (i < 8 ∧ D = xs ++ [⟨s, n⟩] ∧ b = true ∧ er = 0) := by
        rcases hF with h | h | ⟨j, y, hj, _⟩
        · exact .inl h.2
        · exact .inr h.2
        · omega
      clear hF hfi
      rcases hF2 with ⟨h8, hD, rfl, rfl⟩ | ⟨h8, hD, rfl, rfl⟩
      · have h8' : (8 : Int) ≤ (i : Int) := by omega
        have HD : Hid (k = 0) := Lib.hid (by rw [← hDk, hD]; rfl)
        have HDD := Lib.hid hD
        clear hDk hD
        go_wp2
        rw [HD.out, HDD.out]
        refine bodyPost_ret (v := .tuple #[.slice none 0 0, .bool false, .int .i64 50]) (by simp [results, Try.results24, go_sem]) rfl ⟨_, _, rfl, En.At.none_, HBB.out⟩
      · have h8' : ¬ ((8 : Int) ≤ (i : Int)) := by omega
        have HD : Hid (k = i + 1) := Lib.hid (by rw [← hDk, hD, List.length_append, HL.out]; rfl)
        have HDD := Lib.hid hD
        clear hDk hD
        go_wp2_with (at_builtin; refine wpList_app dN _ rfl _ _ 43 rfl w1.heap.size 67 i0 _ 24 Try.underlying43 hi iz isz iby rfl A2 c2 i xs rfl HL.out.symm ?own (some ⟨w2.heap.size, 0, none⟩) 1 1 [⟨s, n⟩] rfl rfl ?at_ ?m1 ?m2 ?m3 ?_)
        case own => exact HO.out.below (below_alloc (Below.refl _ _) _)
        case at_ => exact litN w2 ⟨s, n⟩
        case m1 => rw [HL.out]; omega
        case m2 => rw [HL.out]; omega
        case m3 => have := HB2.out.size; simp; omega
        intro A3 c3 w3 hown hg hat
        have HO3 := Lib.hid hown.at_
        have HG := Lib.hid hg
        rw [HL.out]
        clear hown hg hat
        go_wp2
        rw [HD.out, HDD.out]
        refine bodyPost_ret (v := .tuple #[.slice A3 (i + 1) c3, .bool true, .int .i64 0]) (by simp [results, Try.results24, go_sem]) rfl ⟨_, _, rfl, HO3.out, below_grown (below_alloc HBB.out _) HG.out (fun q hq => by have := (HO.out.row q hq).1; have := HZ.out; omega)⟩
theorem pfresh_any (A : Option Addr) (c m : Nat) (xs : List Seen) (hm : xs.length = m) (s : ByteArray) (n : Int) (w : World) (h : dN.At w A c xs) (hb : m * 24 ≤ 140737488355328) (hs : s.size ≤ 9223372036854775807) (hk : okF s n = true)
    (D : List Seen) (k : Nat) (b : Bool) (er : Int) (hF : Fr s n xs D k b er) :
    Calls Try.prog 23 #[.slice A m c, .string s, .int .i64 n] w (MadeF w D k b er) := by
  obtain ⟨rfl, ⟨hf, hl, hD, rfl, rfl⟩ | ⟨hf, hl, hD, rfl, rfl⟩ | ⟨j, x, hf, hx, ⟨hn, hD, rfl, rfl⟩ | ⟨hn, hD, rfl, rfl⟩⟩⟩ := hF
  · have e1 : putL (soN s) ⟨s, n⟩ 8 xs = D := by unfold putL; rw [if_pos hf, if_pos hl, hD]
    have := fresh_new A c m xs hm s n w h hb hs hk (.inl hf) false (by unfold putB; rw [if_pos hf]; exact decide_eq_false (by omega))
    rw [e1] at this
    exact this
  · have e1 : putL (soN s) ⟨s, n⟩ 8 xs = D := by unfold putL; rw [if_pos hf, if_neg (by omega), hD]
    have := fresh_new A c m xs hm s n w h hb hs hk (.inl hf) true (by unfold putB; rw [if_pos hf]; exact decide_eq_true hl)
    rw [e1] at this
    exact this
  · subst hD
    have := fresh_old A c m j D hm s n x w h hb hs hk hf hx hn
    rw [hm]
    exact this
  · have e1 : putL (soN s) ⟨s, n⟩ 8 xs = D := by unfold putL; rw [if_neg (by omega), hf, hD]; rfl
    have := fresh_new A c m xs hm s n w h hb hs hk (.inr ⟨j, x, hf, hx, hn⟩) true (by unfold putB; rw [if_neg (by omega)])
    rw [e1] at this
    exact this
/-- Both answer alike, at any list, any source, any number. -/
theorem fresh_two (m : Nat) (xs : List Seen) (hm : xs.length = m) (s : ByteArray) (n : Int) (hb : m * 24 ≤ 140737488355328) (hs : s.size ≤ 9223372036854775807) :
    ∃ (D : List Seen) (k : Nat) (b : Bool) (e : Int), D.length = k ∧ (m ≤ 8 → k ≤ 8) ∧
      (∀ (A : Option Addr) (c : Nat) (W : World), dN.At W A c xs → Calls Try.prog 23 #[.slice A m c, .string s, .int .i64 n] W (MadeF W D k b e)) ∧
      (∀ (A : Option Addr) (c : Nat) (W : World), dN.At W A c xs → Calls Try.prog 24 #[.slice A m c, .string s, .int .i64 n] W (MadeF W D k b e)) := by
  cases hk : okF s n with
  | false => exact ⟨[], 0, false, 1, rfl, fun _ => by decide, fun A c W _ => fresh_bad A c m s n W hs hk, fun A c W _ => rfresh_bad A c m s n W hs hk⟩
  | true =>
    obtain ⟨D, k, b, e, hF⟩ := fr_has s n xs
    exact ⟨D, k, b, e, hF.1, fun h8 => fr_small hF (by omega), fun A c W hA => pfresh_any A c m xs hm s n W hA hb hs hk D k b e hF, fun A c W hA => rfresh_any A c m xs hm s n W hA hb hs hk D k b e hF⟩
end Go.Proofs.Ytjehhpppihmpgaa.Boo
