/- slices.DeleteFunc at []Slot; Drop; Expire. -/
import Derived.Test.YtjehhpppihmpgaaBooF
namespace Go.Proofs.Ytjehhpppihmpgaa.Boo
open Go.RowKit Go.Proofs.Ytjehhpppihmpgaa.Mem

theorem below_le {b B : Nat} {w W : World} (h : Below B w W) (hb : b ≤ B) : Below b w W := ⟨h.os, h.tape, h.output, h.size, fun k hk => h.block k (by omega)⟩
theorem fI_first {α : Type} {p : α → Bool} {xs : List α} {k : Nat} (h : fI p xs = k) : ∃ x, xs[k]? = some x ∧ p x = true ∧ ∀ i y, i < k → xs[i]? = some y → p y = false := by
  unfold fI at h
  cases hf : xs.findIdx? p with
  | none => rw [hf] at h; simp at h
  | some i =>
    rw [hf] at h
    obtain ⟨hi, hp, hb⟩ := List.findIdx?_eq_some_iff_getElem.1 hf
    have e : i = k := by have h' : (i : Int) = k := h; omega
    subst e
    refine ⟨_, List.getElem?_eq_getElem hi, hp, fun j y hj hy => ?_⟩
    have := hb j hj
    rw [List.getElem?_eq_getElem (by omega)] at hy
    injection hy with hy
    rw [hy] at this
    simpa using this
theorem fI_not {α : Type} {p : α → Bool} {xs : List α} (h : fI p xs = -1) : ∀ x ∈ xs, p x = false := by
  unfold fI at h
  cases hf : xs.findIdx? p with
  | none => simpa using List.findIdx?_eq_none_iff.1 hf
  | some i => rw [hf] at h; simp at h

/-! Lists. -/
def kept {α : Type} (so : α → Bool) (xs : List α) (j : Nat) : List α := (xs.take j).filter fun x => !so x
def rowL {α : Type} (so : α → Bool) (xs : List α) (j : Nat) : List α := kept so xs j ++ xs.drop (kept so xs j).length
section
variable {α : Type} {so : α → Bool} {xs : List α} {j k : Nat} {x : α}
theorem kept_le : (kept so xs j).length ≤ j := Nat.le_trans (List.length_filter_le _ _) (by rw [List.length_take]; exact Nat.min_le_left _ _)
theorem rowL_length (h : j ≤ xs.length) : (rowL so xs j).length = xs.length := by
  have := kept_le (so := so) (xs := xs) (j := j)
  unfold rowL
  rw [List.length_append, List.length_drop]
  omega
theorem rowL_get (_h : j < xs.length) : (rowL so xs j)[j]? = xs[j]? := by
  have := kept_le (so := so) (xs := xs) (j := j)
  unfold rowL
  rw [List.getElem?_append_right (by omega), List.getElem?_drop, Nat.add_sub_cancel' (by omega)]
theorem kept_drop (hx : xs[j]? = some x) (hs : so x = true) : kept so xs (j + 1) = kept so xs j := by
  unfold kept
  rw [List.take_add_one, hx, List.filter_append]
  simp [hs]
theorem kept_keep (hx : xs[j]? = some x) (hs : so x = false) : kept so xs (j + 1) = kept so xs j ++ [x] := by
  unfold kept
  rw [List.take_add_one, hx, List.filter_append]
  simp [hs]
theorem rowL_drop (hx : xs[j]? = some x) (hs : so x = true) : rowL so xs (j + 1) = rowL so xs j := by
  unfold rowL
  rw [kept_drop hx hs]
theorem rowL_keep (hx : xs[j]? = some x) (hs : so x = false) : rowL so xs (j + 1) = (rowL so xs j).set (kept so xs j).length x := by
  have hj : j < xs.length := (List.getElem?_eq_some_iff.1 hx).1
  have := kept_le (so := so) (xs := xs) (j := j)
  unfold rowL
  rw [kept_keep hx hs, List.set_append_right _ _ (Nat.le_refl _), Nat.sub_self, List.length_append, List.append_assoc]
  congr 1
  rw [List.drop_eq_getElem_cons (show (kept so xs j).length < xs.length by omega)]
  rfl
theorem kept_first (hx : xs[k]? = some x) (hs : so x = true) (hb : ∀ i y, i < k → xs[i]? = some y → so y = false) : kept so xs (k + 1) = xs.take k := by
  rw [kept_drop hx hs]
  unfold kept
  rw [List.filter_eq_self]
  intro y hy
  obtain ⟨i, hi, rfl⟩ := List.mem_iff_getElem.1 hy
  rw [List.length_take] at hi
  rw [List.getElem_take, hb i _ (by omega) (List.getElem?_eq_getElem (by omega))]
  rfl
theorem rowL_first (hx : xs[k]? = some x) (hs : so x = true) (hb : ∀ i y, i < k → xs[i]? = some y → so y = false) : rowL so xs (k + 1) = xs := by
  have hk : k < xs.length := (List.getElem?_eq_some_iff.1 hx).1
  unfold rowL
  rw [kept_first hx hs hb, List.length_take, Nat.min_eq_left (by omega), List.take_append_drop]
theorem kept_all : kept so xs xs.length = xs.filter fun x => !so x := by unfold kept; rw [List.take_length]
theorem kept_none (h : fI so xs = -1) : xs.filter (fun x => !so x) = xs := by
  rw [List.filter_eq_self]
  intro x hx
  rw [fI_not h x hx]
  rfl
end
def MadeA {α : Type} (d : En α) (B : Nat) (w : World) (xs : List α) (n : Nat) (r : Ending) (w' : World) : Prop := ∃ A c, r = .returned (.slice A n c) ∧ d.At w' A c xs ∧ Below B w w'
/-- What stands ahead of a cut stays, where only cells behind it are laid anew. -/
theorem at_cut {w : World} {base g c : Nat} {xs : List Slot} (h : dL.Own 50 w base (some ⟨g, 0, none⟩) c xs) (k : Nat) (hk : k ≤ xs.length) (vs : List Value) : dL.At (w.setCells g (k * 3) vs) (some ⟨g, 0, none⟩) c (xs.take k) := by
  have ha := h.at_.take k hk
  have hl : (xs.take k).length = k := by rw [List.length_take, Nat.min_eq_left hk]
  refine ⟨ha.le, ha.max, ha.nil, fun h0 => ?_⟩
  obtain ⟨b, off, e, hlt, hc⟩ := ha.cell h0
  injection e with e
  injection e with e1 e2
  subst e1
  subst e2
  refine ⟨g, 0, rfl, by rw [size_cells]; exact hlt, fun i hi => ?_⟩
  have hi3 : i < k * 3 := by rw [hl] at hi; exact hi
  rw [World.cell?_setCells_out g vs (k * 3) w _ (fun _ _ => by simp only []; omega)]
  exact hc i hi
theorem delF_any (A : Option Addr) (c n base : Nat) (xs : List Slot) (hn : xs.length = n) (so : Slot → Bool) (f : Nat) (K : Array Value) (w : World) (e2 : Ent f) (h : dL.Own 50 w base A c xs) (hb : base ≤ w.heap.size)
    (hm : ∀ x W, Below base w W → Calls Try.prog f (#[x.val] ++ K) W (Ret (.bool (so x)) W)) :
    Calls Try.prog 34 #[.slice A n c, .func (.func f) #[] K] w (MadeA dL base w (xs.filter fun x => !so x) (xs.filter fun x => !so x).length) := by
  have hle : n ≤ c := by rw [← hn]; exact h.at_.le
  have hmax := h.at_.max
  have HI := Lib.hid (idxL_any A c n xs hn so f K w e2 h.at_ (fun x W hW => hm x W (below_le hW hb)))
  have H := Lib.hid h
  have HN := Lib.hid hn
  have HM := Lib.hid hm
  have he2 : ∀ args W, (callFunc f args).run Try.prog W = .ok (.enter f args) W := e2
  have HBs := Lib.hid hb
  clear h hn hm e2 hb
  by_cases hf : fI so xs = -1
  · rw [kept_none hf]
    rw [hf] at HI
    clear hf
    go_enter Try.func34, Try.ntmps34
    go_wp2_with (go_at_call 39; refine HI.out.mono ?_; rintro e w1 ⟨rfl, hbel⟩; have HB := Lib.hid hbel; have HO := Lib.hid (H.out.below hbel); clear hbel)
    go_ret
    exact ⟨A, c, by rw [HN.out]; rfl, HO.out.at_, below_le HB.out HBs.out⟩
  · obtain ⟨k0, x0, hk0, hx0, _⟩ := fI_get hf
    obtain ⟨x1, hx1, hs1, hb1⟩ := fI_first hk0
    have hkn : k0 < n := by rw [← HN.out]; exact (List.getElem?_eq_some_iff.1 hx0).1
    have HK := Lib.hid (kept_first hx1 hs1 hb1)
    have HR := Lib.hid (rowL_first hx1 hs1 hb1)
    rw [hk0] at HI
    clear hf hk0 hx0 hx1 hs1 hb1
    obtain ⟨g, rfl, hge0, hlt0⟩ : ∃ g, A = some ⟨g, 0, none⟩ ∧ base ≤ g ∧ g < w.heap.size := by
      rcases H.out.form with ⟨_, _, hx⟩ | ⟨g, h1, h2, h3, _⟩
      · have := HN.out; rw [hx] at this; simp at this; omega
      · exact ⟨g, h1, h2, h3⟩
    go_enter Try.func34, Try.ntmps34
    go_wp2_with (go_at_call 39; refine HI.out.mono ?_; rintro e w1 ⟨rfl, hbel⟩; have HB := Lib.hid (below_le hbel HBs.out); have HO := Lib.hid (H.out.below hbel); clear hbel)
    go_loopw [5, 6] (fun iv jv wr => ∃ k j : Nat, iv = .int .i64 k ∧ jv = .int .i64 j ∧ k < j ∧ j ≤ n ∧ Hid ((kept so xs j).length = k) ∧ Hid (dL.Own 50 wr base (some ⟨g, 0, none⟩) c (rowL so xs j)) ∧ Hid (Below base w wr)) (fun _ jv _ => n - (intOf jv).toNat)
    case atStart => exact ⟨k0, k0 + 1, rfl, by go_num, by omega, by omega, Lib.hid (by rw [HK.out, List.length_take, HN.out, Nat.min_eq_left (by omega)]), Lib.hid (by rw [HR.out]; exact HO.out), HB⟩
    case round =>
      obtain ⟨k, j, rfl, rfl, hkj, hjn, HL, HO1, HB1⟩ := hrel
      by_cases hlt : j < n
      · have hlr : Hid ((rowL so xs j).length = n) := by rw [rowL_length (by have := HN.out; omega)]; exact HN.out
        have hx : xs[j]? = some (xs[j]'(by have := HN.out; omega)) := List.getElem?_eq_getElem _
        have hr : (rowL so xs j)[j]? = some (xs[j]'(by have := HN.out; omega)) := (rowL_get (by have := HN.out; omega)).trans hx
        obtain ⟨g', hg', hge, hgl, c0, c1, c2⟩ := own_getL HO1.out j _ hr
        injection hg' with hg'
        injection hg' with hg'
        subst hg'
        generalize xs[j]'(by have := HN.out; omega) = x at c0 c1 c2 hx
        have HX := Lib.hid hx
        clear hx hr
        have HM2 := Lib.hid (HM.out x (wr.alloc (.cells #[.string x.s, .int .i64 x.p, .int .i64 x.t] 50)) (HB1.out.alloc (Nat.le_trans HBs.out HB1.out.size) _))
        have HBa := Lib.hid (HB1.out.alloc (Nat.le_trans HBs.out HB1.out.size) (.cells #[.string x.s, .int .i64 x.p, .int .i64 x.t] 50))
        have HOa := Lib.hid (HO1.out.below (below_alloc (Below.refl _ _) (.cells #[.string x.s, .int .i64 x.p, .int .i64 x.t] 50)))
        cases hb : so x with
        | true =>
          rw [hb] at HM2
          have HS := Lib.hid hb
          clear hb
          go_wp2_with fail
          refine HM2.out.mono ?_
          rintro e w2 ⟨rfl, hbel⟩
          have HO2 := Lib.hid (HOa.out.below hbel)
          have HB2 : Hid (Below base w w2) := HBa.out.trans (below_le hbel (by have := HB1.out.size; have := HBs.out; simp; omega))
          clear hbel
          go_wp2_with fail
          go_roundw
          case rel => first | exact ⟨k, j + 1, rfl, by go_num, by omega, by omega, Lib.hid (by rw [kept_drop HX.out HS.out]; exact HL.out), Lib.hid (by rw [rowL_drop HX.out HS.out]; exact HO2.out), HB2⟩ | ((repeat apply Exists.intro); exact ⟨⟨k, j + 1, rfl, by go_num, by omega, by omega, Lib.hid (by rw [kept_drop HX.out HS.out]; exact HL.out), Lib.hid (by rw [rowL_drop HX.out HS.out]; exact HO2.out), HB2⟩, rfl⟩)
          case measure => simp [intOf]; omega
        | false =>
          rw [hb] at HM2
          have HS := Lib.hid hb
          clear hb
          go_wp2_with fail
          refine HM2.out.mono ?_
          rintro e w2 ⟨rfl, hbel⟩
          have q0 := below_cell hbel (cell_new wr #[.string x.s, .int .i64 x.p, .int .i64 x.t] 50 0)
          have q1 := below_cell hbel (cell_new wr #[.string x.s, .int .i64 x.p, .int .i64 x.t] 50 1)
          have q2 := below_cell hbel (cell_new wr #[.string x.s, .int .i64 x.p, .int .i64 x.t] 50 2)
          have HO2 := Lib.hid (HOa.out.below hbel)
          have HB2 : Hid (Below base w w2) := HBa.out.trans (below_le hbel (by have := HB1.out.size; have := HBs.out; simp; omega))
          clear hbel c0 c1 c2
          have hy : (rowL so xs j)[k]? = some ((rowL so xs j)[k]'(by have := hlr.out; omega)) := List.getElem?_eq_getElem _
          generalize (rowL so xs j)[k]'(by have := hlr.out; omega) = y at hy
          obtain ⟨g', hg', hge2, hgl2, r0, r1, r2⟩ := own_getL HO2.out k _ hy
          injection hg' with hg'
          injection hg' with hg'
          subst hg'
          have f0 := HO2.out.free (k * 3)
          have f1 := HO2.out.free (k * 3 + 1)
          have f2 := HO2.out.free (k * 3 + 2)
          have hne : g ≠ wr.heap.size := by omega
          have hne2 : wr.heap.size ≠ g := by omega
          have HY := Lib.hid hy
          clear hy
          go_wp2_with fail
          go_roundw
          case rel => first | exact ⟨k + 1, j + 1, by go_num, by go_num, by omega, by omega, Lib.hid (by rw [kept_keep HX.out HS.out, List.length_append, HL.out]; rfl), Lib.hid (by rw [rowL_keep HX.out HS.out, HL.out]; exact own_setL HO2.out k y x HY.out), Lib.hid (((HB2.out.setCell (by exact hge) _).setCell (by exact hge) _).setCell (by exact hge) _)⟩ | ((repeat apply Exists.intro); exact ⟨⟨k + 1, j + 1, by go_num, by go_num, by omega, by omega, Lib.hid (by rw [kept_keep HX.out HS.out, List.length_append, HL.out]; rfl), Lib.hid (by rw [rowL_keep HX.out HS.out, HL.out]; exact own_setL HO2.out k y x HY.out), Lib.hid (((HB2.out.setCell (by exact hge) _).setCell (by exact hge) _).setCell (by exact hge) _)⟩, rfl⟩)
          case measure => simp [intOf]; omega
      · obtain rfl : j = n := by omega
        have hkc : ¬ (c = k) := by omega
        have hkc2 : k ≤ c := by omega
        have hkc3 : k ≤ j := by omega
        have hrl : (rowL so xs j).length = j := by rw [rowL_length (by have := HN.out; omega)]; exact HN.out
        obtain ⟨W2, hW2⟩ : ∃ W2, W2 = wr.setCells g (k * 3) (zL (j - k)) := ⟨_, rfl⟩
        have hclr : ∀ ty, (Builtin.clear_ #[23] ty #[.slice (some ⟨g, k * 3, none⟩) (j - k) (c - k)]).run Try.prog wr = .ok (.tuple #[]) W2 := fun ty => by
          rw [hW2]
          refine run_clear50 wr ty g (k * 3) _ _ (by omega) (fun t ht => ?_) (fun t ht => HO1.out.free _)
          obtain ⟨b, off, e, hlt, hc⟩ := HO1.out.at_.cell (by omega)
          injection e with e
          injection e with e1 e2
          subst e1
          subst e2
          have := hc (k * 3 + t) (by rw [hrl]; show _ < j * 3; omega)
          rw [Nat.zero_add] at this
          rw [this, List.getElem?_eq_getElem (by rw [dL.cs_length, hrl]; show _ < j * 3; omega)]
          rfl
        have hk : (rowL so xs j).take k = xs.filter fun x => !so x := by
          have e1 : kept so xs j = xs.filter fun x => !so x := by have := HN.out; subst this; exact kept_all
          rw [← e1]
          unfold rowL
          rw [List.take_append_of_le_length (by rw [HL.out]; exact Nat.le_refl _), ← HL.out, List.take_length]
        have E1 : Hid (dL.At W2 (some ⟨g, 0, none⟩) c (xs.filter fun x => !so x)) := by
          rw [hW2, ← hk]; exact at_cut HO1.out k (by omega) _
        have E2 : Hid (Below base w W2) := by rw [hW2]; exact below_cells hge0 _ _ _ HB1.out
        have E3 : Hid (k = (xs.filter fun x => !so x).length) := Lib.hid (by rw [← hk, List.length_take, hrl, Nat.min_eq_left (by omega)])
        clear hW2 hk hrl
        go_wp2
        go_ret
        exact ⟨_, _, by rw [← E3.out]; rfl, E1.out, E2.out⟩
def dropL (s : ByteArray) (xs : List Slot) : List Slot := if fI (soS s) xs = -1 then xs else xs.eraseIdx (fI (soS s) xs).toNat
theorem drop_any (A : Option Addr) (c n : Nat) (xs : List Slot) (hn : xs.length = n) (s : ByteArray) (w : World) (h : dL.At w A c xs) (hb : n * 32 ≤ 140737488355328) :
    Calls Try.prog 19 #[.slice A n c, .string s] w (MadeA dL w.heap.size w (dropL s xs) (dropL s xs).length) := by
  have hle : n ≤ c := by rw [← hn]; exact h.le
  have hmax := h.max
  have H := Lib.hid h
  have HN := Lib.hid hn
  have HI := Lib.hid (fun (B : Nat) (W : World) (hs : AtS W B s) (hA : dL.At W A c xs) => idxL_any A c n xs hn (soS s) 48 #[.pointer (some ⟨B, 0, none⟩)] W ent48 hA (fun x W' hW => of1_any x s B W' (hs.below hW)))
  have HC := Lib.hid (fun (W : World) (hA : dL.At W A c xs) => cloneL_any A c n xs hn W hA hb)
  clear h hn
  by_cases hf : fI (soS s) xs = -1
  · have e1 : dropL s xs = xs := by unfold dropL; rw [if_pos hf]
    rw [e1]
    rw [hf] at HI
    clear e1 hf
    go_enter Try.func19, Try.ntmps19
    go_wp2_with (first
      | (go_at_call 31; refine (of_any s _).mono ?_; rintro e w1 ⟨B, rfl, hs, hge, hbel⟩; have HS := Lib.hid hs; have HB := Lib.hid hbel; have HA := Lib.hid (H.out.below hbel); clear hs hge hbel)
      | (go_at_call 39; refine (HI.out B _ HS.out HA.out).mono ?_; rintro e w2 ⟨rfl, hbel⟩; have HB2 := Lib.hid (below_step HB.out hbel); have HA2 := Lib.hid (HA.out.below hbel); clear hbel)
      | (go_at_call 35; refine (HC.out _ HA2.out).mono ?_; rintro e w3 ⟨A3, c3, rfl, hown, hbel⟩; have HB3 := Lib.hid (below_step HB2.out hbel); have HO := Lib.hid hown; clear hown hbel))
    go_ret
    exact ⟨A3, c3, by rw [HN.out]; rfl, HO.out.at_, HB3.out⟩
  · obtain ⟨k0, x0, hk0, hx0, _⟩ := fI_get hf
    have hkn : k0 < n := by rw [← HN.out]; exact (List.getElem?_eq_some_iff.1 hx0).1
    have e1 : dropL s xs = xs.eraseIdx k0 := by unfold dropL; rw [if_neg hf, hk0]; rfl
    have e2 : (xs.eraseIdx k0).length = n - 1 := by rw [List.length_eraseIdx, HN.out, if_pos hkn]
    rw [e1, e2]
    rw [hk0] at HI
    clear e1 e2 hf hk0 hx0
    go_enter Try.func19, Try.ntmps19
    go_wp2_with (first
      | (go_at_call 31; refine (of_any s _).mono ?_; rintro e w1 ⟨B, rfl, hs, hge, hbel⟩; have HS := Lib.hid hs; have HB := Lib.hid hbel; have HA := Lib.hid (H.out.below hbel); clear hs hge hbel)
      | (go_at_call 39; refine (HI.out B _ HS.out HA.out).mono ?_; rintro e w2 ⟨rfl, hbel⟩; have HB2 := Lib.hid (below_step HB.out hbel); have HA2 := Lib.hid (HA.out.below hbel); clear hbel)
      | (go_at_call 35; refine (HC.out _ HA2.out).mono ?_; rintro e w3 ⟨A3, c3, rfl, hown, hbel⟩; have HB3 := Lib.hid (below_step HB2.out hbel); have HO := Lib.hid hown; have HZ := Lib.hid HB2.out.size; clear hown hbel)
      | (go_at_call 40; obtain ⟨g, rfl, hge, hgl, hnc, hcm⟩ : ∃ g, A3 = some ⟨g, 0, none⟩ ∧ w2.heap.size ≤ g ∧ g < w3.heap.size ∧ n ≤ c3 ∧ c3 ≤ 9223372036854775807 := (by
            rcases HO.out.form with ⟨_, _, hx⟩ | ⟨g, h1, h2, h3, h4, h5⟩
            · have := HN.out; rw [hx] at this; simp at this; omega
            · exact ⟨g, h1, h2, h3, by rw [← HN.out]; exact h4, h5⟩)
         have HCell : ∀ k, k < n * 3 → w3.cell? ⟨g, 0 + k, none⟩ = (dL.cs xs)[k]? := fun k hk => (by
            obtain ⟨b, off, e, hlt, hc⟩ := HO.out.at_.cell (by have := HN.out; omega)
            injection e with e
            injection e with e1 e2
            subst e1
            subst e2
            exact hc k (by rw [HN.out]; exact hk))
         refine (delL_any g 0 c3 k0 (k0 + 1) n xs HN.out hkn rfl hnc hcm w3 HCell (fun k hk => HO.out.free _) hgl w.heap.size (Nat.le_trans HZ.out hge)).mono ?_
         rintro e w4 ⟨rfl, hat, hbel⟩
         have HE := Lib.hid hat
         have HB4 := Lib.hid (HB3.out.trans hbel)
         clear hat hbel HCell))
    go_ret
    exact ⟨_, _, rfl, HE.out, HB4.out⟩
theorem two_boxes (w : World) (a b : Int) : At1 ((w.alloc (.cells #[.int .i64 a] 3)).alloc (.cells #[.int .i64 b] 3)) w.heap.size a ∧ At1 ((w.alloc (.cells #[.int .i64 a] 3)).alloc (.cells #[.int .i64 b] 3)) (w.heap.size + 1) b := by
  refine ⟨Lib.cell?_alloc_some _ (cell_new w #[.int .i64 a] 3 0), ?_⟩
  have := cell_new (w.alloc (.cells #[.int .i64 a] 3)) #[.int .i64 b] 3 0
  rw [show (w.alloc (.cells #[.int .i64 a] 3)).heap.size = w.heap.size + 1 by simp] at this
  exact this
def expL (most now : Int) (xs : List Slot) : List Slot := xs.filter fun x => !oldB most now x
theorem expire_any (A : Option Addr) (c n : Nat) (xs : List Slot) (hn : xs.length = n) (now most : Int) (w : World) (h : dL.At w A c xs) (hb : n * 32 ≤ 140737488355328) :
    Calls Try.prog 17 #[.slice A n c, .int .i64 now, .int .i64 most] w (MadeA dL w.heap.size w (expL most now xs) (expL most now xs).length) := by
  have H := Lib.hid h
  have HC := Lib.hid (fun (W : World) (hA : dL.At W A c xs) => cloneL_any A c n xs hn W hA hb)
  have HN := Lib.hid hn
  clear h hn
  go_enter Try.func17, Try.ntmps17
  go_wp2_with (first
    | (go_at_call 35; refine (HC.out _ (H.out.below (below_alloc (below_alloc (Below.refl _ _) _) _))).mono ?_; rintro e w3 ⟨A3, c3, rfl, hown, hbel⟩
       have q0 := (two_boxes w now most).1.below hbel
       have q1 := (two_boxes w now most).2.below hbel
       have Q0 := Lib.hid q0
       have Q1 := Lib.hid q1
       have HB3 : Hid (Below w.heap.size w w3) := below_step (below_alloc (below_alloc (Below.refl _ _) _) _) hbel
       have HZ := Lib.hid hbel.size
       have HO := Lib.hid hown
       clear hown hbel q0 q1)
    | (go_at_call 34; refine (delF_any A3 c3 n _ xs HN.out (oldB most now) 36 #[.pointer (some ⟨w.heap.size + 1, 0, none⟩), .pointer (some ⟨w.heap.size, 0, none⟩)] w3 ent36 HO.out HZ.out (fun x W hW => exp1_any x most now _ _ W ((hW.cell (p := ⟨_, 0, none⟩) (by simp only [World.size_alloc]; omega)).trans Q1.out) ((hW.cell (p := ⟨_, 0, none⟩) (by simp only [World.size_alloc]; omega)).trans Q0.out))).mono ?_
       rintro e w4 ⟨A4, c4, rfl, hat, hbel⟩
       have HE := Lib.hid hat
       have HB4 := Lib.hid (HB3.out.trans (below_le hbel (by simp only [World.size_alloc]; omega)))
       clear hat hbel))
  go_ret
  exact ⟨A4, c4, rfl, HE.out, HB4.out⟩
end Go.Proofs.Ytjehhpppihmpgaa.Boo
