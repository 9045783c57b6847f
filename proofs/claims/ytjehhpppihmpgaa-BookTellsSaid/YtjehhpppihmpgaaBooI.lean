/- The reference's Drop and Expire; both Offers; the two comparisons. -/
import Derived.Test.YtjehhpppihmpgaaBooG
namespace Go.Proofs.Ytjehhpppihmpgaa.Boo
open Go.RowKit Go.Proofs.Ytjehhpppihmpgaa.Mem

theorem lit1 (w : World) (y : Slot) : dL.At (w.alloc (.cells #[.string y.s, .int .i64 y.p, .int .i64 y.t] 50)) (some ⟨w.heap.size, 0, none⟩) 1 [y] :=
  (En.Own.lit dL w 0 50 #[.string y.s, .int .i64 y.p, .int .i64 y.t] [y] (Nat.zero_le _) (by simp) rfl).at_
theorem litF (w : World) (y : Offer) : dF.At (w.alloc (.cells #[.string y.s, .int .i64 y.p] 41)) (some ⟨w.heap.size, 0, none⟩) 1 [y] :=
  (En.Own.lit dF w 0 41 #[.string y.s, .int .i64 y.p] [y] (Nat.zero_le _) (by simp) rfl).at_

theorem same_yes (A B : Option Addr) (c k n : Nat) (xs : List Slot) (hn : xs.length = n) (w : World) (hx : dL.At w A c xs) (hy : dL.At w B k xs) :
    Calls Try.prog 16 #[.slice A n c, .slice B n k] w (Ret (.bool true) w) := by
  have HX := Lib.hid hx
  have HY := Lib.hid hy
  have l1 := hx.le
  have l2 := hx.max
  have l3 := hy.le
  have l4 := hy.max
  rw [hn] at l1 l3
  have HN := Lib.hid hn
  clear hx hy hn
  go_enter Try.func16, Try.ntmps16
  go_wp2
  go_loopw [5] (fun kk wr => ∃ (i m : Nat), i ≤ n ∧ kk = .int .i64 i ∧ wr = w.drewN m) (fun kk _ => n - (intOf kk).toNat)
  case atStart => exact ⟨0, 0, Nat.zero_le _, rfl, rfl⟩
  case round =>
    obtain ⟨i, m, hk, rfl, rfl⟩ := hrel
    by_cases hlt : i < n
    · have hx : xs[i]? = some (xs[i]'(by have := HN.out; omega)) := List.getElem?_eq_getElem _
      obtain ⟨b, off, rfl, hb, c0, c1, c2⟩ := at_getL HX.out i _ hx
      obtain ⟨b', off', rfl, hb', d0, d1, d2⟩ := at_getL HY.out i _ hx
      generalize xs[i]'(by have := HN.out; omega) = x at c0 c1 c2 d0 d1 d2 hx
      have hq : ∀ W, (Op.equalIn 10000 50 (.agg #[.string x.s, .int .i64 x.p, .int .i64 x.t]) (.agg #[.string x.s, .int .i64 x.p, .int .i64 x.t])).run Try.prog W = .ok true W := fun W => by rw [eqA50 W x x, (slotB_iff x x).2 rfl]
      clear hx
      go_wp2_with fail
      go_quiet (fail)
      go_wp2
      go_roundw
      case rel => exact ⟨i + 1, m + nq, by omega, by go_num, by go_simp⟩
      case measure => simp [intOf]; omega
    · obtain rfl : i = n := by omega
      go_wp2
      go_ret
      exact ⟨rfl, below_drewN (Below.refl _ _) _⟩

theorem sameN_yes (A B : Option Addr) (c k n : Nat) (xs : List Seen) (hn : xs.length = n) (w : World) (hx : dN.At w A c xs) (hy : dN.At w B k xs) :
    Calls Try.prog 25 #[.slice A n c, .slice B n k] w (Ret (.bool true) w) := by
  have HX := Lib.hid hx
  have HY := Lib.hid hy
  have l1 := hx.le
  have l2 := hx.max
  have l3 := hy.le
  have l4 := hy.max
  rw [hn] at l1 l3
  have HN := Lib.hid hn
  clear hx hy hn
  go_enter Try.func25, Try.ntmps25
  go_wp2
  go_loopw [5] (fun kk wr => ∃ (i m : Nat), i ≤ n ∧ kk = .int .i64 i ∧ wr = w.drewN m) (fun kk _ => n - (intOf kk).toNat)
  case atStart => exact ⟨0, 0, Nat.zero_le _, rfl, rfl⟩
  case round =>
    obtain ⟨i, m, hk, rfl, rfl⟩ := hrel
    by_cases hlt : i < n
    · have hx : xs[i]? = some (xs[i]'(by have := HN.out; omega)) := List.getElem?_eq_getElem _
      obtain ⟨b, off, rfl, hb, c0, c1⟩ := at_getN HX.out i _ hx
      obtain ⟨b', off', rfl, hb', d0, d1⟩ := at_getN HY.out i _ hx
      generalize xs[i]'(by have := HN.out; omega) = x at c0 c1 d0 d1 hx
      have hq : ∀ W, (Op.equalIn 10000 67 (.agg #[.string x.s, .int .i64 x.n]) (.agg #[.string x.s, .int .i64 x.n])).run Try.prog W = .ok true W := fun W => by rw [eqA67 W x x, (seenB_iff x x).2 rfl]
      clear hx
      go_wp2_with fail
      go_quiet (fail)
      go_wp2
      go_roundw
      case rel => exact ⟨i + 1, m + nq, by omega, by go_num, by go_simp⟩
      case measure => simp [intOf]; omega
    · obtain rfl : i = n := by omega
      go_wp2
      go_ret
      exact ⟨rfl, below_drewN (Below.refl _ _) _⟩

def offL (xs : List Slot) : List Offer := xs.map fun x => ⟨x.s, x.p⟩
theorem take_map {xs : List Slot} {k : Nat} {x : Slot} (hx : xs[k]? = some x) : offL (xs.take (k + 1)) = offL (xs.take k) ++ [⟨x.s, x.p⟩] := by
  unfold offL
  rw [List.take_add_one, hx, List.map_append]
  rfl
theorem offers_any (A : Option Addr) (c n : Nat) (xs : List Slot) (hn : xs.length = n) (w : World) (h : dL.At w A c xs) (hb : n * 32 ≤ 140737488355328) :
    Calls Try.prog 21 #[.slice A n c] w (MadeA dF w.heap.size w (offL xs) n) := by
  obtain ⟨i0, hi, iz, isz, iby⟩ := info_parts info41
  have H := Lib.hid h
  have hle : n ≤ c := by rw [← hn]; exact h.le
  have hmax := h.max
  have HN := Lib.hid hn
  clear h hn
  go_enter Try.func21, Try.ntmps21
  go_wp2
  go_loopw [2, 7] (fun ov iv wr => ∃ (k : Nat) (A' : Option Addr) (c' : Nat), k ≤ n ∧ iv = .int .i64 k ∧ ov = .slice A' k c' ∧ Hid (dF.Own 41 wr w.heap.size A' c' (offL (xs.take k))) ∧ Hid (Below w.heap.size w wr)) (fun _ iv _ => n - (intOf iv).toNat)
  case atStart => exact ⟨0, none, 0, Nat.zero_le _, rfl, rfl, En.Own.none_ _ _ _, Below.refl _ _⟩
  case round =>
    obtain ⟨k, A', c', hk, rfl, rfl, HO, HB⟩ := hrel
    by_cases hlt : k < n
    · have hx : xs[k]? = some (xs[k]'(by have := HN.out; omega)) := List.getElem?_eq_getElem _
      obtain ⟨b, off, rfl, hbl, c0, c1, c2⟩ := at_getL (H.out.below HB.out) k _ hx
      generalize xs[k]'(by have := HN.out; omega) = x at c0 c1 c2 hx
      have HT := Lib.hid (take_map hx)
      have hl : Hid ((offL (xs.take k)).length = k) := by unfold offL; rw [List.length_map, List.length_take, HN.out, Nat.min_eq_left (by omega)]; trivial
      clear hx
      go_wp2_with (at_builtin; refine wpList_app dF _ rfl _ _ 38 rfl w.heap.size 41 i0 _ 24 Try.underlying38 hi iz isz iby rfl A' c' k (offL (xs.take k)) rfl hl.out.symm ?own _ 1 1 [⟨x.s, x.p⟩] rfl rfl ?at_ ?m1 ?m2 ?m3 ?_)
      case own => exact HO.out.below (below_alloc (below_alloc (Below.refl _ _) _) _)
      case at_ => first | exact litF _ ⟨x.s, x.p⟩ | (have := litF (wr.alloc (.cells #[.string x.s, .int .i64 x.p, .int .i64 x.t] 50)) ⟨x.s, x.p⟩; simpa using this)
      case m1 => rw [hl.out]; simp; omega
      case m2 => rw [hl.out]; simp; omega
      case m3 => have := HB.out.size; simp; omega
      intro A3 c3 w3 hown hg hat
      rw [hl.out]
      rw [← HT.out] at hown
      have HO3 := Lib.hid hown
      have HG := Lib.hid (below_grown (below_alloc (below_alloc HB.out _) _) hg (fun q hq => (HO.out.row q hq).1))
      clear hown hg hat
      go_wp2
      go_roundw
      case rel => first | exact ⟨k + 1, A3, c3, by omega, by go_num, rfl, HO3, HG⟩ | ((repeat apply Exists.intro); exact ⟨⟨k + 1, A3, c3, by omega, by go_num, rfl, HO3, HG⟩, rfl⟩)
      case measure => simp [intOf]; omega
    · obtain rfl : k = n := by omega
      have HE : Hid (xs.take k = xs) := by rw [← HN.out, List.take_length]; trivial
      go_wp2
      go_ret
      exact ⟨A', c', rfl, by rw [← HE.out]; exact HO.out.at_, HB.out⟩

/-! The reference's Drop and Expire. -/
theorem dropL_step (s : ByteArray) (xs : List Slot) (k : Nat) (x : Slot) (hx : xs[k]? = some x) : (fI (soS s) xs = k → (xs.take (k + 1)).eraseIdx (fI (soS s) xs).toNat = xs.take k) := fun h => by
  rw [h, Int.toNat_natCast, List.take_add_one, hx]
  rw [List.eraseIdx_append_of_length_le (by rw [List.length_take]; exact Nat.min_le_left _ _)]
  have : (xs.take k).length = k := by rw [List.length_take]; have := (List.getElem?_eq_some_iff.1 hx).1; omega
  rw [this, Nat.sub_self]
  simp
/-- What is there but for the one at an index. -/
def butL (d : Int) (xs : List Slot) (k : Nat) : List Slot := if 0 ≤ d ∧ d < k then (xs.take k).eraseIdx d.toNat else xs.take k
theorem butL_same {d : Int} {xs : List Slot} {k : Nat} (hd : d = k) (hk : k < xs.length) : butL d xs (k + 1) = butL d xs k := by
  unfold butL
  rw [if_pos (by omega), if_neg (by omega), hd, Int.toNat_natCast, List.take_add_one, List.getElem?_eq_getElem hk]
  have hl : (xs.take k).length = k := by rw [List.length_take]; omega
  rw [List.eraseIdx_append_of_length_le (by omega), hl, Nat.sub_self]
  simp
theorem butL_more {d : Int} {xs : List Slot} {k : Nat} {x : Slot} (hd : d ≠ k) (hx : xs[k]? = some x) : butL d xs (k + 1) = butL d xs k ++ [x] := by
  have hk := (List.getElem?_eq_some_iff.1 hx).1
  have hl : (xs.take k).length = k := by rw [List.length_take]; omega
  unfold butL
  by_cases h : 0 ≤ d ∧ d < k
  · rw [if_pos (by omega), if_pos h, List.take_add_one, hx, List.eraseIdx_append_of_lt_length (by omega)]
    rfl
  · rw [if_neg (by omega), if_neg h, List.take_add_one, hx]
    rfl
theorem butL_le (d : Int) (xs : List Slot) (k : Nat) : (butL d xs k).length ≤ k := by
  unfold butL
  split
  · exact Nat.le_trans (List.length_eraseIdx_le _ _) (by rw [List.length_take]; exact Nat.min_le_left _ _)
  · rw [List.length_take]; exact Nat.min_le_left _ _
theorem butL_all (s : ByteArray) (xs : List Slot) : butL (fI (soS s) xs) xs xs.length = dropL s xs := by
  have hb := fI_bd (soS s) xs
  unfold butL dropL
  rw [List.take_length]
  by_cases h : fI (soS s) xs = -1
  · rw [if_neg (by omega), if_pos h]
  · rw [if_pos (by omega), if_neg h]
theorem rdrop_any (A : Option Addr) (c n : Nat) (xs : List Slot) (hn : xs.length = n) (s : ByteArray) (w : World) (h : dL.At w A c xs) (hb : n * 32 ≤ 140737488355328) (HT : Hid (∀ W, dL.At W A c xs → Calls Try.prog 33 #[.slice A n c, .string s] W fun e w' => e = .returned (.int .i64 (fI (soS s) xs)) ∧ W = w')) :
    Calls Try.prog 20 #[.slice A n c, .string s] w (MadeA dL w.heap.size w (dropL s xs) (dropL s xs).length) := by
  obtain ⟨i0, hi, iz, isz, iby⟩ := info_parts info50
  have H := Lib.hid h
  have hle : n ≤ c := by rw [← hn]; exact h.le
  have hmax := h.max
  have HN := Lib.hid hn
  have HE : Hid (butL (fI (soS s) xs) xs n = dropL s xs) := by rw [← hn]; exact butL_all s xs
  have hbd := fI_bd (soS s) xs
  rw [hn] at hbd
  generalize fI (soS s) xs = d at HT HE hbd
  clear h hn
  go_enter Try.func20, Try.ntmps20
  go_wp2_with (go_at_call 33; refine (HT.out _ H.out).mono ?_; rintro e w1 ⟨rfl, rfl⟩)
  go_loopw [5, 7] (fun ov iv wr => ∃ (k : Nat) (A' : Option Addr) (c' m : Nat), k ≤ n ∧ iv = .int .i64 k ∧ ov = .slice A' m c' ∧ Hid ((butL d xs k).length = m) ∧ Hid (dL.Own 50 wr w.heap.size A' c' (butL d xs k)) ∧ Hid (Below w.heap.size w wr)) (fun _ iv _ => n - (intOf iv).toNat)
  case atStart => exact ⟨0, none, 0, 0, Nat.zero_le _, rfl, rfl, Lib.hid (by have := butL_le d xs 0; omega), Lib.hid (by have := butL_le d xs 0; rw [List.eq_nil_of_length_eq_zero (by omega : (butL d xs 0).length = 0)]; exact En.Own.none_ _ _ _), Lib.hid (Below.refl _ _)⟩
  case round =>
    obtain ⟨k, A', c', m, hk, rfl, rfl, HL, HO, HB⟩ := hrel
    by_cases hlt : k < n
    · have hx : xs[k]? = some (xs[k]'(by have := HN.out; omega)) := List.getElem?_eq_getElem _
      obtain ⟨b, off, rfl, hbl, c0, c1, c2⟩ := at_getL (H.out.below HB.out) k _ hx
      generalize xs[k]'(by have := HN.out; omega) = x at c0 c1 c2 hx
      have hm : m ≤ k := by rw [← HL.out]; exact butL_le d xs k
      by_cases hd : d = k
      · have g1 : ((k : Int) != d) = false := by rw [hd]; simp
        have HT2 := Lib.hid (butL_same hd (by have := HN.out; omega : k < xs.length))
        clear hx hd
        go_wp2
        go_roundw
        case rel => first | exact ⟨k + 1, A', c', m, by omega, by go_num, rfl, Lib.hid (by rw [HT2.out]; exact HL.out), Lib.hid (by rw [HT2.out]; exact HO.out), HB⟩ | ((repeat apply Exists.intro); exact ⟨⟨k + 1, A', c', m, by omega, by go_num, rfl, Lib.hid (by rw [HT2.out]; exact HL.out), Lib.hid (by rw [HT2.out]; exact HO.out), HB⟩, rfl⟩)
        case measure => simp [intOf]; omega
      · have g1 : ((k : Int) != d) = true := by simp; omega
        have HT2 := Lib.hid (butL_more hd hx)
        clear hx hd
        go_wp2_with (at_builtin; refine wpList_app dL _ rfl _ _ 23 rfl w.heap.size 50 i0 _ 32 Try.underlying23 hi iz isz iby rfl A' c' m (butL d xs k) rfl HL.out.symm ?own _ 1 1 [x] rfl rfl ?at_ ?m1 ?m2 ?m3 ?_)
        case own => exact HO.out.below (below_alloc (Below.refl _ _) _)
        case at_ => exact lit1 _ x
        case m1 => rw [HL.out]; simp; omega
        case m2 => rw [HL.out]; simp; omega
        case m3 => have := HB.out.size; simp; omega
        intro A3 c3 w3 hown hg hat
        rw [← HT2.out] at hown
        have HL3 : Hid ((butL d xs (k + 1)).length = m + 1) := Lib.hid (by rw [HT2.out, List.length_append, HL.out]; rfl)
        rw [HL.out]
        have HO3 := Lib.hid hown
        have HG := Lib.hid (below_grown (below_alloc HB.out _) hg (fun q hq => (HO.out.row q hq).1))
        clear hown hg hat
        go_wp2
        go_roundw
        case rel => first | exact ⟨k + 1, A3, c3, m + 1, by omega, by go_num, rfl, HL3, HO3, HG⟩ | ((repeat apply Exists.intro); exact ⟨⟨k + 1, A3, c3, m + 1, by omega, by go_num, rfl, HL3, HO3, HG⟩, rfl⟩)
        case measure => simp [intOf]; omega
    · obtain rfl : k = n := by omega
      rw [HE.out] at HO HL
      have HL2 := Lib.hid HL.out.symm
      go_wp2
      go_ret
      exact ⟨A', c', by rw [← HL2.out]; rfl, HO.out.at_, HB.out⟩
theorem exp_take (most now : Int) (xs : List Slot) (k : Nat) (x : Slot) (hx : xs[k]? = some x) : expL most now (xs.take (k + 1)) = if oldB most now x then expL most now (xs.take k) else expL most now (xs.take k) ++ [x] := by
  unfold expL
  rw [List.take_add_one, hx, List.filter_append]
  cases h : oldB most now x <;> simp [h]
theorem exp_le (most now : Int) (xs : List Slot) (k : Nat) : (expL most now (xs.take k)).length ≤ k := Nat.le_trans (List.length_filter_le _ _) (by rw [List.length_take]; exact Nat.min_le_left _ _)
theorem rexp_any (A : Option Addr) (c n : Nat) (xs : List Slot) (hn : xs.length = n) (now most : Int) (w : World) (h : dL.At w A c xs) (hb : n * 32 ≤ 140737488355328) :
    Calls Try.prog 18 #[.slice A n c, .int .i64 now, .int .i64 most] w (MadeA dL w.heap.size w (expL most now xs) (expL most now xs).length) := by
  obtain ⟨i0, hi, iz, isz, iby⟩ := info_parts info50
  have H := Lib.hid h
  have hle : n ≤ c := by rw [← hn]; exact h.le
  have hmax := h.max
  have HN := Lib.hid hn
  clear h hn
  go_enter Try.func18, Try.ntmps18
  go_wp2
  go_loopw [7, 8] (fun ov iv wr => ∃ (k : Nat) (A' : Option Addr) (c' m : Nat), k ≤ n ∧ iv = .int .i64 k ∧ ov = .slice A' m c' ∧ Hid ((expL most now (xs.take k)).length = m) ∧ Hid (dL.Own 50 wr w.heap.size A' c' (expL most now (xs.take k))) ∧ Hid (Below w.heap.size w wr)) (fun _ iv _ => n - (intOf iv).toNat)
  case atStart => exact ⟨0, none, 0, 0, Nat.zero_le _, rfl, rfl, Lib.hid rfl, Lib.hid (En.Own.none_ _ _ _), Lib.hid (Below.refl _ _)⟩
  case round =>
    obtain ⟨k, A', c', m, hk, rfl, rfl, HL, HO, HB⟩ := hrel
    by_cases hlt : k < n
    · have hx : xs[k]? = some (xs[k]'(by have := HN.out; omega)) := List.getElem?_eq_getElem _
      obtain ⟨b, off, rfl, hbl, c0, c1, c2⟩ := at_getL (H.out.below HB.out) k _ hx
      generalize xs[k]'(by have := HN.out; omega) = x at c0 c1 c2 hx
      have hm : m ≤ k := by rw [← HL.out]; exact exp_le most now xs k
      have hT := exp_take most now xs k x hx
      clear hx
      by_cases hd : laterI x.t most < now
      · have hd2 : ¬ (now ≤ laterI x.t most) := by omega
        rw [show oldB most now x = true from decide_eq_true hd, if_pos rfl] at hT
        have HT2 := Lib.hid hT
        clear hT
        go_wp2_with (go_at_call 38; refine (rlater_any _ _ _).mono ?_; rintro e w1 ⟨rfl, rfl⟩)
        go_roundw
        case rel => first | exact ⟨k + 1, A', c', m, by omega, by go_num, rfl, Lib.hid (by rw [HT2.out]; exact HL.out), Lib.hid (by rw [HT2.out]; exact HO.out), HB⟩ | ((repeat apply Exists.intro); exact ⟨⟨k + 1, A', c', m, by omega, by go_num, rfl, Lib.hid (by rw [HT2.out]; exact HL.out), Lib.hid (by rw [HT2.out]; exact HO.out), HB⟩, rfl⟩)
        case measure => simp [intOf]; omega
      · have hd2 : now ≤ laterI x.t most := by omega
        rw [show oldB most now x = false from decide_eq_false hd, if_neg (by decide)] at hT
        have HT2 := Lib.hid hT
        clear hT
        go_wp2_with (first
          | (go_at_call 38; refine (rlater_any _ _ _).mono ?_; rintro e w1 ⟨rfl, rfl⟩)
          | (at_builtin; refine wpList_app dL _ rfl _ _ 23 rfl w.heap.size 50 i0 _ 32 Try.underlying23 hi iz isz iby rfl A' c' m (expL most now (xs.take k)) rfl HL.out.symm ?own _ 1 1 [x] rfl rfl ?at_ ?m1 ?m2 ?m3 ?_))
        case own => exact HO.out.below (below_alloc (Below.refl _ _) _)
        case at_ => exact lit1 _ x
        case m1 => rw [HL.out]; simp; omega
        case m2 => rw [HL.out]; simp; omega
        case m3 => have := HB.out.size; simp; omega
        intro A3 c3 w3 hown hg hat
        rw [← HT2.out] at hown
        have HL3 : Hid ((expL most now (xs.take (k + 1))).length = m + 1) := Lib.hid (by rw [HT2.out, List.length_append, HL.out]; rfl)
        rw [HL.out]
        have HO3 := Lib.hid hown
        have HG := Lib.hid (below_grown (below_alloc HB.out _) hg (fun q hq => (HO.out.row q hq).1))
        clear hown hg hat
        go_wp2
        go_roundw
        case rel => first | exact ⟨k + 1, A3, c3, m + 1, by omega, by go_num, rfl, HL3, HO3, HG⟩ | ((repeat apply Exists.intro); exact ⟨⟨k + 1, A3, c3, m + 1, by omega, by go_num, rfl, HL3, HO3, HG⟩, rfl⟩)
        case measure => simp [intOf]; omega
    · obtain rfl : k = n := by omega
      have HX : Hid (xs.take k = xs) := Lib.hid (by rw [← HN.out, List.take_length])
      rw [HX.out] at HO HL
      have HL2 := Lib.hid HL.out.symm
      go_wp2
      go_ret
      exact ⟨A', c', by rw [← HL2.out]; rfl, HO.out.at_, HB.out⟩
end Go.Proofs.Ytjehhpppihmpgaa.Boo
