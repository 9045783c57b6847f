/- Contracts of Clone, IndexFunc and 'with' at []Slot and []Seen, over any function value. -/
import Derived.Test.YtjehhpppihmpgaaBooC
namespace Go.Proofs.Ytjehhpppihmpgaa.Boo
open Go.RowKit Go.Proofs.Ytjehhpppihmpgaa.Mem

structure Slot where
  s : ByteArray
  p : Int
  t : Int
structure Seen where
  s : ByteArray
  n : Int
structure Offer where
  s : ByteArray
  p : Int
def dL : En Slot := ⟨fun m => [.string m.s, .int .i64 m.p, .int .i64 m.t], 3, by omega, fun _ => rfl, fun x u hu => by simp at hu; rcases hu with rfl | rfl | rfl <;> rfl⟩
def dN : En Seen := ⟨fun m => [.string m.s, .int .i64 m.n], 2, by omega, fun _ => rfl, fun x u hu => by simp at hu; rcases hu with rfl | rfl <;> rfl⟩
def dF : En Offer := ⟨fun m => [.string m.s, .int .i64 m.p], 2, by omega, fun _ => rfl, fun x u hu => by simp at hu; rcases hu with rfl | rfl <;> rfl⟩
def Slot.val (m : Slot) : Value := .agg #[.string m.s, .int .i64 m.p, .int .i64 m.t]
def Seen.val (m : Seen) : Value := .agg #[.string m.s, .int .i64 m.n]
theorem info50 : (Try.prog.info? 50).map (fun i => (i.zero, i.size, i.bytes)) = some (some (.agg #[.string ⟨#[]⟩, .int .i64 0, .int .i64 0]), 3, 32) := by kernel_rfl
theorem info67 : (Try.prog.info? 67).map (fun i => (i.zero, i.size, i.bytes)) = some (some (.agg #[.string ⟨#[]⟩, .int .i64 0]), 2, 24) := by kernel_rfl
theorem info41 : (Try.prog.info? 41).map (fun i => (i.zero, i.size, i.bytes)) = some (some (.agg #[.string ⟨#[]⟩, .int .i64 0]), 2, 24) := by kernel_rfl
def Ent (f : Nat) : Prop := ∀ args W, (callFunc f args).run Try.prog W = .ok (.enter f args) W
def Made {α : Type} (d : En α) (e : TypeId) (w : World) (xs : List α) (n : Nat) (r : Ending) (w' : World) : Prop := ∃ A c, r = .returned (.slice A n c) ∧ d.Own e w' w.heap.size A c xs ∧ Below w.heap.size w w'
def MadeB {α : Type} (d : En α) (e : TypeId) (w : World) (xs : List α) (n : Nat) (b : Bool) (r : Ending) (w' : World) : Prop := ∃ A c, r = .returned (.tuple #[.slice A n c, .bool b]) ∧ d.Own e w' w.heap.size A c xs ∧ Below w.heap.size w w'
/-- One field or more stored: a list of cells. -/
theorem cs_setf {α : Type} (d : En α) (xs : List α) (k : Nat) (x y : α) (hx : xs[k]? = some x) (j : Nat) (hj : j < d.sz) (u : Value) (he : (d.enc x).set j u = d.enc y) : (d.cs xs).set (k * d.sz + j) u = d.cs (xs.set k y) := by
  have hk : k < xs.length := (List.getElem?_eq_some_iff.1 hx).1
  refine d.cs_ext _ _ (by rw [List.length_set, d.cs_length, List.length_set]) fun q z hz i hi => ?_
  have hlt : k * d.sz + j < xs.length * d.sz := by
    have := Nat.mul_le_mul_right d.sz hk
    rw [Nat.succ_mul] at this
    omega
  by_cases hq : k = q
  · subst hq
    have e : z = y := by
      rw [List.getElem?_set_self hk] at hz
      exact (Option.some.inj hz).symm
    subst e
    rw [← he, List.getElem?_set, List.getElem?_set, d.cs_length, d.len]
    by_cases hji : j = i
    · subst hji
      rw [if_pos rfl, if_pos rfl, if_pos hlt, if_pos hj]
    · rw [if_neg (by omega), if_neg hji]
      exact d.cs_get xs k x hx i hi
  · rw [List.getElem?_set_ne hq] at hz
    have hne : k * d.sz + j ≠ q * d.sz + i := by
      intro e
      have h1 : (k * d.sz + j) / d.sz = k := by rw [Nat.mul_comm, Nat.mul_add_div d.pos, Nat.div_eq_of_lt hj]; rfl
      have h2 : (q * d.sz + i) / d.sz = q := by rw [Nat.mul_comm, Nat.mul_add_div d.pos, Nat.div_eq_of_lt hi]; rfl
      rw [e, h2] at h1
      exact hq h1.symm
    rw [List.getElem?_set_ne hne]
    exact d.cs_get xs q z hz i hi
theorem own_setf {α : Type} {d : En α} {e : TypeId} {w : World} {base g c : Nat} {xs : List α} (h : d.Own e w base (some ⟨g, 0, none⟩) c xs) (k : Nat) (x y : α) (hx : xs[k]? = some x) (j : Nat) (hj : j < d.sz) (u : Value) (he : (d.enc x).set j u = d.enc y) :
    d.Own e (w.setCell ⟨g, k * d.sz + j, none⟩ u) base (some ⟨g, 0, none⟩) c (xs.set k y) := by
  have h1 := (World.ownsRow.stored h (k * d.sz + j) u).1
  unfold En.Own
  rw [List.length_set, ← cs_setf d xs k x y hx j hj u he]
  exact h1
def putL {α : Type} (so : α → Bool) (y : α) (most : Nat) (xs : List α) : List α := if fI so xs = -1 then (if most ≤ xs.length then [] else xs ++ [y]) else xs.set (fI so xs).toNat y
def putB {α : Type} (so : α → Bool) (most : Nat) (xs : List α) : Bool := if fI so xs = -1 then decide (xs.length < most) else true
theorem fI_get {α : Type} {p : α → Bool} {xs : List α} (h : fI p xs ≠ -1) : ∃ k x, fI p xs = (k : Nat) ∧ xs[k]? = some x ∧ p x = true := by
  unfold fI at h ⊢
  cases hf : xs.findIdx? p with
  | none => rw [hf] at h; simp at h
  | some i =>
    obtain ⟨hi, hp, _⟩ := List.findIdx?_eq_some_iff_getElem.1 hf
    exact ⟨i, _, rfl, List.getElem?_eq_getElem hi, hp⟩

/-! Slot -/
theorem at_getL {w : World} {A : Option Addr} {c : Nat} {xs : List Slot} (h : dL.At w A c xs) (k : Nat) (x : Slot) (hx : xs[k]? = some x) :
    ∃ b off, A = some ⟨b, off, none⟩ ∧ b < w.heap.size ∧ w.cell? ⟨b, off + k * 3, none⟩ = some (.string x.s) ∧ w.cell? ⟨b, off + k * 3 + 1, none⟩ = some (.int .i64 x.p) ∧ w.cell? ⟨b, off + k * 3 + 2, none⟩ = some (.int .i64 x.t) := by
  obtain ⟨b, off, hA, hlt, hc⟩ := h.get k x hx
  exact ⟨b, off, hA, hlt, hc 0 (by decide), hc 1 (by decide), hc 2 (by decide)⟩
theorem own_getL {w : World} {base : Nat} {A : Option Addr} {c : Nat} {xs : List Slot} (h : dL.Own 50 w base A c xs) (k : Nat) (x : Slot) (hx : xs[k]? = some x) :
    ∃ g, A = some ⟨g, 0, none⟩ ∧ base ≤ g ∧ g < w.heap.size ∧ w.cell? ⟨g, k * 3, none⟩ = some (.string x.s) ∧ w.cell? ⟨g, k * 3 + 1, none⟩ = some (.int .i64 x.p) ∧ w.cell? ⟨g, k * 3 + 2, none⟩ = some (.int .i64 x.t) := by
  obtain ⟨g, off, rfl, hlt, h0, h1, h2⟩ := at_getL h.at_ k x hx
  obtain ⟨rfl, hge, _⟩ := own_at0 h
  rw [Nat.zero_add] at h0 h1 h2
  exact ⟨g, rfl, hge, hlt, h0, h1, h2⟩
theorem cloneL_nil (w : World) : Calls Try.prog 35 #[.slice none 0 0] w (Made dL 50 w [] 0) := by
  have heq := fun W a n c => Lib.run_eql_slice_nil (P := Try.prog) W 23 50 a n c 0 0 Try.underlying23
  go_enter Try.func35, Try.ntmps35
  go_wp2
  go_ret
  exact ⟨none, 0, rfl, En.Own.none_ _ _ _, Below.refl _ _⟩
theorem cloneL_some (a : Addr) (c n : Nat) (xs : List Slot) (hn : xs.length = n) (w : World) (h : dL.At w (some a) c xs) (hb : n * 32 ≤ 140737488355328) : Calls Try.prog 35 #[.slice (some a) n c] w (Made dL 50 w xs n) := by
  subst hn
  obtain ⟨i0, hi, hz0, hz1, hz2⟩ := info_parts info50
  have heq := fun W a n c => Lib.run_eql_slice_nil (P := Try.prog) W 23 50 a n c 0 0 Try.underlying23
  have H := Lib.hid h
  clear h
  have hbel : Hid (Below w.heap.size w (w.alloc (.cells #[] 50))) := (Below.refl _ _).alloc (Nat.le_refl _) _
  go_enter Try.func35, Try.ntmps35
  go_wp2_with (at_builtin; refine wpList_app dL _ rfl _ _ 23 rfl w.heap.size 50 i0 _ 32 Try.underlying23 hi hz0 hz1 hz2 rfl (some ⟨w.heap.size, 0, none⟩) 0 0 [] rfl rfl ?own (some a) c xs.length xs rfl rfl ?at_ ?m1 ?m2 ?m3 ?_)
  case own => exact En.Own.lit dL w w.heap.size 50 #[] [] (Nat.le_refl _) (Nat.zero_le _) rfl
  case at_ => exact H.out.below hbel.out
  case m1 => simp only [List.length_nil]; omega
  case m2 => simp only [List.length_nil]; omega
  case m3 => simp
  intro A' c' w' hown hg hat
  have HO := Lib.hid hown
  have HG := Lib.hid hg
  clear hown hg hat
  go_wp2
  go_ret
  exact ⟨A', c', rfl, HO.out, hbel.out.grown HG.out (by simp) (fun k hk => by simp [Value.ownBlock] at hk; omega)⟩
theorem cloneL_any (A : Option Addr) (c n : Nat) (xs : List Slot) (hn : xs.length = n) (w : World) (h : dL.At w A c xs) (hb : n * 32 ≤ 140737488355328) : Calls Try.prog 35 #[.slice A n c] w (Made dL 50 w xs n) := by
  cases A with
  | none =>
    have hc := h.nil rfl
    subst hc
    have hx : xs = [] := List.eq_nil_of_length_eq_zero (Nat.le_zero.1 h.le)
    subst hx
    subst hn
    exact cloneL_nil w
  | some a => exact cloneL_some a c n xs hn w h hb
theorem idxL_any (A : Option Addr) (c n : Nat) (xs : List Slot) (hn : xs.length = n) (so : Slot → Bool) (f : Nat) (K : Array Value) (w : World) (e2 : Ent f) (h : dL.At w A c xs)
    (hm : ∀ x W, Below w.heap.size w W → Calls Try.prog f (#[x.val] ++ K) W (Ret (.bool (so x)) W)) :
    Calls Try.prog 39 #[.slice A n c, .func (.func f) #[] K] w (Ret (.int .i64 (fI so xs)) w) := by
  have H := Lib.hid h
  have hle : n ≤ c := by rw [← hn]; exact h.le
  have hmax := h.max
  have HN := Lib.hid hn
  have HM := Lib.hid hm
  have he2 : ∀ args W, (callFunc f args).run Try.prog W = .ok (.enter f args) W := e2
  clear h hn hm e2
  go_enter Try.func39, Try.ntmps39
  go_wp2
  go_loopw [8] (fun iv wr => ∃ k : Nat, k ≤ n ∧ iv = .int .i64 k ∧ Hid (∀ j y, j < k → xs[j]? = some y → so y = false) ∧ Hid (Below w.heap.size w wr)) (fun iv _ => n - (intOf iv).toNat)
  case atStart => exact ⟨0, Nat.zero_le _, rfl, (fun j y hj => absurd hj (Nat.not_lt_zero _)), Below.refl _ _⟩
  case round =>
    obtain ⟨k, hk, rfl, HB, HL⟩ := hrel
    by_cases hlt : k < n
    · have hx : xs[k]? = some (xs[k]'(by have := HN.out; omega)) := List.getElem?_eq_getElem _
      obtain ⟨b, off, rfl, hbl, c0, c1, c2⟩ := at_getL (H.out.below HL.out) k _ hx
      generalize xs[k]'(by have := HN.out; omega) = x at c0 c1 c2 hx
      have HX := Lib.hid hx
      clear hx
      have HM2 := Lib.hid (HM.out x wr HL.out)
      cases hb : so x with
      | false =>
        rw [hb] at HM2
        have HN2 := Lib.hid hb
        clear hb
        go_wp2_with fail
        refine HM2.out.mono ?_
        rintro e w2 ⟨rfl, hbel⟩
        have HB2 := Lib.hid hbel
        clear hbel
        go_wp2_with fail
        go_roundw
        case rel => exact ⟨k + 1, by omega, by go_num, Lib.hid (fI_step HX.out HN2.out HB.out), below_step HL.out HB2.out⟩
        case measure => simp [intOf]; omega
      | true =>
        rw [hb] at HM2
        have HE := Lib.hid (fI_hit HX.out hb HB.out)
        clear hb
        go_wp2_with fail
        refine HM2.out.mono ?_
        rintro e w2 ⟨rfl, hbel⟩
        have HB2 := Lib.hid hbel
        clear hbel
        go_wp2_with fail
        go_ret
        exact ⟨ret1 HE.out.symm, below_step HL.out HB2.out⟩
    · obtain rfl : k = n := by omega
      have HE := Lib.hid (fI_none (p := so) (xs := xs) (fun j y hj hy => HB.out j y (by have := HN.out; omega) hy))
      go_wp2
      go_ret
      exact ⟨ret1 HE.out.symm, HL.out⟩
theorem own_setL {w : World} {base g c : Nat} {xs : List Slot} (h : dL.Own 50 w base (some ⟨g, 0, none⟩) c xs) (k : Nat) (x y : Slot) (hx : xs[k]? = some x) :
    dL.Own 50 ((((w.setCell ⟨g, k * 3, none⟩ (.string y.s)).setCell ⟨g, k * 3 + 1, none⟩ (.int .i64 y.p)).setCell ⟨g, k * 3 + 2, none⟩ (.int .i64 y.t))) base (some ⟨g, 0, none⟩) c (xs.set k y) := by
  have hk : k < xs.length := (List.getElem?_eq_some_iff.1 hx).1
  have z0 := own_setf h k _ (⟨y.s, x.p, x.t⟩ : Slot) hx 0 (by decide) (.string y.s) rfl
  have z1 := own_setf z0 k _ (⟨y.s, y.p, x.t⟩ : Slot) (List.getElem?_set_self (by first | exact hk | (simp only [List.length_set]; exact hk))) 1 (by decide) (.int .i64 y.p) rfl
  have z2 := own_setf z1 k _ (⟨y.s, y.p, y.t⟩ : Slot) (List.getElem?_set_self (by first | exact hk | (simp only [List.length_set]; exact hk))) 2 (by decide) (.int .i64 y.t) rfl
  simp only [List.set_set] at z2
  exact z2
theorem withL_any (A : Option Addr) (c n most : Nat) (xs : List Slot) (hn : xs.length = n) (y : Slot) (so : Slot → Bool) (f : Nat) (K : Array Value) (w : World) (e2 : Ent f) (h : dL.At w A c xs) (hb : n * 32 ≤ 140737488355328) (hmo : most ≤ 1000)
    (hm : ∀ x W, Below w.heap.size w W → Calls Try.prog f (#[x.val] ++ K) W (Ret (.bool (so x)) W)) :
    Calls Try.prog 30 #[.slice A n c, y.val, .int .i64 most, .func (.func f) #[] K] w (MadeB dL 50 w (putL so y most xs) (putL so y most xs).length (putB so most xs)) := by
  obtain ⟨i0, hi, iz, isz, iby⟩ := info_parts info50
  have H := Lib.hid h
  have hle : n ≤ c := by rw [← hn]; exact h.le
  have hmax := h.max
  have HC := Lib.hid (fun W hW => cloneL_any A c n xs hn W hW hb)
  have HI := Lib.hid (fun W (hW : Below w.heap.size w W) => idxL_any A c n xs hn so f K W e2 (h.below hW) (fun x W2 hW2 => hm x W2 (below_step hW hW2)))
  have HN := Lib.hid hn
  clear h hn hm e2
  obtain ⟨ys, yp, yt⟩ := y
  by_cases hf : fI so xs = -1
  · rw [hf] at HI
    by_cases hr : most ≤ n
    · have e1 : putL so (⟨ys, yp, yt⟩ : Slot) most xs = [] := by unfold putL; rw [if_pos hf, if_pos (by rw [HN.out]; exact hr)]
      have e2 : putB so most xs = false := by unfold putB; rw [if_pos hf]; exact decide_eq_false (by rw [HN.out]; omega)
      rw [e1, e2]
      clear e1 e2 hf
      show Calls Try.prog 30 #[_, .agg #[.string ys, .int .i64 yp, .int .i64 yt], _, _] w _
      go_enter Try.func30, Try.ntmps30
      go_wp2_with (first
        | (go_at_call 35; refine (HC.out _ (H.out.below (below_alloc (Below.refl _ _) _))).mono ?_; rintro e w1 ⟨A1, c1, rfl, hown, hbel⟩; have HB : Hid (Below w.heap.size w w1) := below_step (below_alloc (Below.refl _ _) _) hbel; clear hown hbel)
        | (go_at_call 39; refine (HI.out _ HB.out).mono ?_; rintro e w2 ⟨rfl, hbel⟩; have HB2 : Hid (Below w.heap.size w w2) := below_step HB.out hbel; clear hbel))
      go_ret2
      exact ⟨none, 0, rfl, En.Own.none_ _ _ _, HB2.out⟩
    · have e1 : putL so (⟨ys, yp, yt⟩ : Slot) most xs = xs ++ [⟨ys, yp, yt⟩] := by unfold putL; rw [if_pos hf, if_neg (by rw [HN.out]; exact hr)]
      have e2 : putB so most xs = true := by unfold putB; rw [if_pos hf]; exact decide_eq_true (by rw [HN.out]; omega)
      rw [e1, e2]
      clear e1 e2 hf
      show Calls Try.prog 30 #[_, .agg #[.string ys, .int .i64 yp, .int .i64 yt], _, _] w _
      go_enter Try.func30, Try.ntmps30
      go_wp2_with (first
        | (go_at_call 35; refine (HC.out _ (H.out.below (below_alloc (Below.refl _ _) _))).mono ?_; rintro e w1 ⟨A1, c1, rfl, hown, hbel⟩; have HO := Lib.hid hown; have HB : Hid (Below w.heap.size w w1) := below_step (below_alloc (Below.refl _ _) _) hbel; have q0 := below_cell hbel (cell_new w #[.string ys, .int .i64 yp, .int .i64 yt] 50 0); have q1 := below_cell hbel (cell_new w #[.string ys, .int .i64 yp, .int .i64 yt] 50 1); have q2 := below_cell hbel (cell_new w #[.string ys, .int .i64 yp, .int .i64 yt] 50 2); clear hown hbel)
        | (go_at_call 39; refine (HI.out _ HB.out).mono ?_; rintro e w2 ⟨rfl, hbel⟩; have HO2 := Lib.hid (HO.out.below hbel); have HB2 : Hid (Below w.heap.size w w2) := below_step HB.out hbel; have p0 := below_cell hbel q0; have p1 := below_cell hbel q1; have p2 := below_cell hbel q2; clear hbel q0 q1 q2)
        | (at_builtin; refine wpList_app dL _ rfl _ _ 23 rfl w.heap.size 50 i0 _ 32 Try.underlying23 hi iz isz iby rfl A1 c1 n xs rfl HN.out.symm ?own (some ⟨w2.heap.size, 0, none⟩) 1 1 [⟨ys, yp, yt⟩] rfl rfl ?at_ ?m1 ?m2 ?m3 ?_))
      case own => exact (HO2.out.below (below_alloc (Below.refl _ _) _)).lower (by simp)
      case at_ => exact (En.Own.lit dL w2 w2.heap.size 50 #[.string ys, .int .i64 yp, .int .i64 yt] [⟨ys, yp, yt⟩] (Nat.le_refl _) (by simp) rfl).at_
      case m1 => rw [HN.out]; simp; omega
      case m2 => rw [HN.out]; simp; omega
      case m3 => have := HB2.out.size; simp; omega
      intro A3 c3 w3 hown hg hat
      have HO3 := Lib.hid hown
      have HG := Lib.hid hg
      clear hown hg hat
      go_wp2
      go_ret2
      exact ⟨A3, c3, by simp, HO3.out, below_grown (below_alloc HB2.out _) HG.out (fun q hq => by have := (HO2.out.row q hq).1; simp at this; omega)⟩
  · obtain ⟨k, x, hk, hx, _⟩ := fI_get hf
    have e1 : putL so (⟨ys, yp, yt⟩ : Slot) most xs = xs.set k ⟨ys, yp, yt⟩ := by unfold putL; rw [if_neg hf, hk]; rfl
    have e2 : putB so most xs = true := by unfold putB; rw [if_neg hf]
    rw [hk] at HI
    rw [e1, e2]
    have e3 : (xs.set k (⟨ys, yp, yt⟩ : Slot)).length = n := by rw [List.length_set]; exact HN.out
    rw [e3]
    have hkn : k < n := by rw [← HN.out]; exact (List.getElem?_eq_some_iff.1 hx).1
    have HX := Lib.hid hx
    clear e1 e2 e3 hf hk hx
    show Calls Try.prog 30 #[_, .agg #[.string ys, .int .i64 yp, .int .i64 yt], _, _] w _
    go_enter Try.func30, Try.ntmps30
    go_wp2_with (first
      | (go_at_call 35; refine (HC.out _ (H.out.below (below_alloc (Below.refl _ _) _))).mono ?_; rintro e w1 ⟨A1, c1, rfl, hown, hbel⟩; have HO := Lib.hid hown; have HB : Hid (Below w.heap.size w w1) := below_step (below_alloc (Below.refl _ _) _) hbel; have q0 := below_cell hbel (cell_new w #[.string ys, .int .i64 yp, .int .i64 yt] 50 0); have q1 := below_cell hbel (cell_new w #[.string ys, .int .i64 yp, .int .i64 yt] 50 1); have q2 := below_cell hbel (cell_new w #[.string ys, .int .i64 yp, .int .i64 yt] 50 2); clear hown hbel)
      | (go_at_call 39; refine (HI.out _ HB.out).mono ?_; rintro e w2 ⟨rfl, hbel⟩; have HO2 := Lib.hid (HO.out.below hbel); have HB2 : Hid (Below w.heap.size w w2) := below_step HB.out hbel; have p0 := below_cell hbel q0; have p1 := below_cell hbel q1; have p2 := below_cell hbel q2; obtain ⟨g, rfl, hge, hlt, r0, r1, r2⟩ := own_getL HO2.out k _ HX.out; have f0 := HO2.out.free (k * 3); have f1 := HO2.out.free (k * 3 + 1); have f2 := HO2.out.free (k * 3 + 2); have hne : g ≠ w.heap.size := (by simp at hge; omega); have hne2 : w.heap.size ≠ g := (by simp at hge; omega); clear hbel q0 q1 q2))
    go_ret2
    refine ⟨some ⟨g, 0, none⟩, c1, rfl, ?_, ?_⟩
    · exact (own_setL HO2.out k x ⟨ys, yp, yt⟩ HX.out).lower (by simp)
    · have hgw : w.heap.size ≤ g := by simp at hge; omega
      exact below_set (below_set (below_set (HB2.out) hgw _) hgw _) hgw _

/-! Seen -/
theorem at_getN {w : World} {A : Option Addr} {c : Nat} {xs : List Seen} (h : dN.At w A c xs) (k : Nat) (x : Seen) (hx : xs[k]? = some x) :
    ∃ b off, A = some ⟨b, off, none⟩ ∧ b < w.heap.size ∧ w.cell? ⟨b, off + k * 2, none⟩ = some (.string x.s) ∧ w.cell? ⟨b, off + k * 2 + 1, none⟩ = some (.int .i64 x.n) := by
  obtain ⟨b, off, hA, hlt, hc⟩ := h.get k x hx
  exact ⟨b, off, hA, hlt, hc 0 (by decide), hc 1 (by decide)⟩
theorem own_getN {w : World} {base : Nat} {A : Option Addr} {c : Nat} {xs : List Seen} (h : dN.Own 67 w base A c xs) (k : Nat) (x : Seen) (hx : xs[k]? = some x) :
    ∃ g, A = some ⟨g, 0, none⟩ ∧ base ≤ g ∧ g < w.heap.size ∧ w.cell? ⟨g, k * 2, none⟩ = some (.string x.s) ∧ w.cell? ⟨g, k * 2 + 1, none⟩ = some (.int .i64 x.n) := by
  obtain ⟨g, off, rfl, hlt, h0, h1⟩ := at_getN h.at_ k x hx
  obtain ⟨rfl, hge, _⟩ := own_at0 h
  rw [Nat.zero_add] at h0 h1
  exact ⟨g, rfl, hge, hlt, h0, h1⟩
theorem cloneN_nil (w : World) : Calls Try.prog 43 #[.slice none 0 0] w (Made dN 67 w [] 0) := by
  have heq := fun W a n c => Lib.run_eql_slice_nil (P := Try.prog) W 43 67 a n c 0 0 Try.underlying43
  go_enter Try.func43, Try.ntmps43
  go_wp2
  go_ret
  exact ⟨none, 0, rfl, En.Own.none_ _ _ _, Below.refl _ _⟩
theorem cloneN_some (a : Addr) (c n : Nat) (xs : List Seen) (hn : xs.length = n) (w : World) (h : dN.At w (some a) c xs) (hb : n * 24 ≤ 140737488355328) : Calls Try.prog 43 #[.slice (some a) n c] w (Made dN 67 w xs n) := by
  subst hn
  obtain ⟨i0, hi, hz0, hz1, hz2⟩ := info_parts info67
  have heq := fun W a n c => Lib.run_eql_slice_nil (P := Try.prog) W 43 67 a n c 0 0 Try.underlying43
  have H := Lib.hid h
  clear h
  have hbel : Hid (Below w.heap.size w (w.alloc (.cells #[] 67))) := (Below.refl _ _).alloc (Nat.le_refl _) _
  go_enter Try.func43, Try.ntmps43
  go_wp2_with (at_builtin; refine wpList_app dN _ rfl _ _ 43 rfl w.heap.size 67 i0 _ 24 Try.underlying43 hi hz0 hz1 hz2 rfl (some ⟨w.heap.size, 0, none⟩) 0 0 [] rfl rfl ?own (some a) c xs.length xs rfl rfl ?at_ ?m1 ?m2 ?m3 ?_)
  case own => exact En.Own.lit dN w w.heap.size 67 #[] [] (Nat.le_refl _) (Nat.zero_le _) rfl
  case at_ => exact H.out.below hbel.out
  case m1 => simp only [List.length_nil]; omega
  case m2 => simp only [List.length_nil]; omega
  case m3 => simp
  intro A' c' w' hown hg hat
  have HO := Lib.hid hown
  have HG := Lib.hid hg
  clear hown hg hat
  go_wp2
  go_ret
  exact ⟨A', c', rfl, HO.out, hbel.out.grown HG.out (by simp) (fun k hk => by simp [Value.ownBlock] at hk; omega)⟩
theorem cloneN_any (A : Option Addr) (c n : Nat) (xs : List Seen) (hn : xs.length = n) (w : World) (h : dN.At w A c xs) (hb : n * 24 ≤ 140737488355328) : Calls Try.prog 43 #[.slice A n c] w (Made dN 67 w xs n) := by
  cases A with
  | none =>
    have hc := h.nil rfl
    subst hc
    have hx : xs = [] := List.eq_nil_of_length_eq_zero (Nat.le_zero.1 h.le)
    subst hx
    subst hn
    exact cloneN_nil w
  | some a => exact cloneN_some a c n xs hn w h hb
theorem idxN_any (A : Option Addr) (c n : Nat) (xs : List Seen) (hn : xs.length = n) (so : Seen → Bool) (f : Nat) (K : Array Value) (w : World) (e2 : Ent f) (h : dN.At w A c xs)
    (hm : ∀ x W, Below w.heap.size w W → Calls Try.prog f (#[x.val] ++ K) W (Ret (.bool (so x)) W)) :
    Calls Try.prog 42 #[.slice A n c, .func (.func f) #[] K] w (Ret (.int .i64 (fI so xs)) w) := by
  have H := Lib.hid h
  have hle : n ≤ c := by rw [← hn]; exact h.le
  have hmax := h.max
  have HN := Lib.hid hn
  have HM := Lib.hid hm
  have he2 : ∀ args W, (callFunc f args).run Try.prog W = .ok (.enter f args) W := e2
  clear h hn hm e2
  go_enter Try.func42, Try.ntmps42
  go_wp2
  go_loopw [8] (fun iv wr => ∃ k : Nat, k ≤ n ∧ iv = .int .i64 k ∧ Hid (∀ j y, j < k → xs[j]? = some y → so y = false) ∧ Hid (Below w.heap.size w wr)) (fun iv _ => n - (intOf iv).toNat)
  case atStart => exact ⟨0, Nat.zero_le _, rfl, (fun j y hj => absurd hj (Nat.not_lt_zero _)), Below.refl _ _⟩
  case round =>
    obtain ⟨k, hk, rfl, HB, HL⟩ := hrel
    by_cases hlt : k < n
    · have hx : xs[k]? = some (xs[k]'(by have := HN.out; omega)) := List.getElem?_eq_getElem _
      obtain ⟨b, off, rfl, hbl, c0, c1⟩ := at_getN (H.out.below HL.out) k _ hx
      generalize xs[k]'(by have := HN.out; omega) = x at c0 c1 hx
      have HX := Lib.hid hx
      clear hx
      have HM2 := Lib.hid (HM.out x wr HL.out)
      cases hb : so x with
      | false =>
        rw [hb] at HM2
        have HN2 := Lib.hid hb
        clear hb
        go_wp2_with fail
        refine HM2.out.mono ?_
        rintro e w2 ⟨rfl, hbel⟩
        have HB2 := Lib.hid hbel
        clear hbel
        go_wp2_with fail
        go_roundw
        case rel => exact ⟨k + 1, by omega, by go_num, Lib.hid (fI_step HX.out HN2.out HB.out), below_step HL.out HB2.out⟩
        case measure => simp [intOf]; omega
      | true =>
        rw [hb] at HM2
        have HE := Lib.hid (fI_hit HX.out hb HB.out)
        clear hb
        go_wp2_with fail
        refine HM2.out.mono ?_
        rintro e w2 ⟨rfl, hbel⟩
        have HB2 := Lib.hid hbel
        clear hbel
        go_wp2_with fail
        go_ret
        exact ⟨ret1 HE.out.symm, below_step HL.out HB2.out⟩
    · obtain rfl : k = n := by omega
      have HE := Lib.hid (fI_none (p := so) (xs := xs) (fun j y hj hy => HB.out j y (by have := HN.out; omega) hy))
      go_wp2
      go_ret
      exact ⟨ret1 HE.out.symm, HL.out⟩
theorem own_setN {w : World} {base g c : Nat} {xs : List Seen} (h : dN.Own 67 w base (some ⟨g, 0, none⟩) c xs) (k : Nat) (x y : Seen) (hx : xs[k]? = some x) :
    dN.Own 67 (((w.setCell ⟨g, k * 2, none⟩ (.string y.s)).setCell ⟨g, k * 2 + 1, none⟩ (.int .i64 y.n))) base (some ⟨g, 0, none⟩) c (xs.set k y) := by
  have hk : k < xs.length := (List.getElem?_eq_some_iff.1 hx).1
  have z0 := own_setf h k _ (⟨y.s, x.n⟩ : Seen) hx 0 (by decide) (.string y.s) rfl
  have z1 := own_setf z0 k _ (⟨y.s, y.n⟩ : Seen) (List.getElem?_set_self (by first | exact hk | (simp only [List.length_set]; exact hk))) 1 (by decide) (.int .i64 y.n) rfl
  simp only [List.set_set] at z1
  exact z1
theorem withN_any (A : Option Addr) (c n most : Nat) (xs : List Seen) (hn : xs.length = n) (y : Seen) (so : Seen → Bool) (f : Nat) (K : Array Value) (w : World) (e2 : Ent f) (h : dN.At w A c xs) (hb : n * 24 ≤ 140737488355328) (hmo : most ≤ 1000)
    (hm : ∀ x W, Below w.heap.size w W → Calls Try.prog f (#[x.val] ++ K) W (Ret (.bool (so x)) W)) :
    Calls Try.prog 44 #[.slice A n c, y.val, .int .i64 most, .func (.func f) #[] K] w (MadeB dN 67 w (putL so y most xs) (putL so y most xs).length (putB so most xs)) := by
  obtain ⟨i0, hi, iz, isz, iby⟩ := info_parts info67
  have H := Lib.hid h
  have hle : n ≤ c := by rw [← hn]; exact h.le
  have hmax := h.max
  have HC := Lib.hid (fun W hW => cloneN_any A c n xs hn W hW hb)
  have HI := Lib.hid (fun W (hW : Below w.heap.size w W) => idxN_any A c n xs hn so f K W e2 (h.below hW) (fun x W2 hW2 => hm x W2 (below_step hW hW2)))
  have HN := Lib.hid hn
  clear h hn hm e2
  obtain ⟨ys, yn⟩ := y
  by_cases hf : fI so xs = -1
  · rw [hf] at HI
    by_cases hr : most ≤ n
    · have e1 : putL so (⟨ys, yn⟩ : Seen) most xs = [] := by unfold putL; rw [if_pos hf, if_pos (by rw [HN.out]; exact hr)]
      have e2 : putB so most xs = false := by unfold putB; rw [if_pos hf]; exact decide_eq_false (by rw [HN.out]; omega)
      rw [e1, e2]
      clear e1 e2 hf
      show Calls Try.prog 44 #[_, .agg #[.string ys, .int .i64 yn], _, _] w _
      go_enter Try.func44, Try.ntmps44
      go_wp2_with (first
        | (go_at_call 43; refine (HC.out _ (H.out.below (below_alloc (Below.refl _ _) _))).mono ?_; rintro e w1 ⟨A1, c1, rfl, hown, hbel⟩; have HB : Hid (Below w.heap.size w w1) := below_step (below_alloc (Below.refl _ _) _) hbel; clear hown hbel)
        | (go_at_call 42; refine (HI.out _ HB.out).mono ?_; rintro e w2 ⟨rfl, hbel⟩; have HB2 : Hid (Below w.heap.size w w2) := below_step HB.out hbel; clear hbel))
      go_ret2
      exact ⟨none, 0, rfl, En.Own.none_ _ _ _, HB2.out⟩
    · have e1 : putL so (⟨ys, yn⟩ : Seen) most xs = xs ++ [⟨ys, yn⟩] := by unfold putL; rw [if_pos hf, if_neg (by rw [HN.out]; exact hr)]
      have e2 : putB so most xs = true := by unfold putB; rw [if_pos hf]; exact decide_eq_true (by rw [HN.out]; omega)
      rw [e1, e2]
      clear e1 e2 hf
      show Calls Try.prog 44 #[_, .agg #[.string ys, .int .i64 yn], _, _] w _
      go_enter Try.func44, Try.ntmps44
      go_wp2_with (first
        | (go_at_call 43; refine (HC.out _ (H.out.below (below_alloc (Below.refl _ _) _))).mono ?_; rintro e w1 ⟨A1, c1, rfl, hown, hbel⟩; have HO := Lib.hid hown; have HB : Hid (Below w.heap.size w w1) := below_step (below_alloc (Below.refl _ _) _) hbel; have q0 := below_cell hbel (cell_new w #[.string ys, .int .i64 yn] 67 0); have q1 := below_cell hbel (cell_new w #[.string ys, .int .i64 yn] 67 1); clear hown hbel)
        | (go_at_call 42; refine (HI.out _ HB.out).mono ?_; rintro e w2 ⟨rfl, hbel⟩; have HO2 := Lib.hid (HO.out.below hbel); have HB2 : Hid (Below w.heap.size w w2) := below_step HB.out hbel; have p0 := below_cell hbel q0; have p1 := below_cell hbel q1; clear hbel q0 q1)
        | (at_builtin; refine wpList_app dN _ rfl _ _ 43 rfl w.heap.size 67 i0 _ 24 Try.underlying43 hi iz isz iby rfl A1 c1 n xs rfl HN.out.symm ?own (some ⟨w2.heap.size, 0, none⟩) 1 1 [⟨ys, yn⟩] rfl rfl ?at_ ?m1 ?m2 ?m3 ?_))
      case own => exact (HO2.out.below (below_alloc (Below.refl _ _) _)).lower (by simp)
      case at_ => exact (En.Own.lit dN w2 w2.heap.size 67 #[.string ys, .int .i64 yn] [⟨ys, yn⟩] (Nat.le_refl _) (by simp) rfl).at_
      case m1 => rw [HN.out]; simp; omega
      case m2 => rw [HN.out]; simp; omega
      case m3 => have := HB2.out.size; simp; omega
      intro A3 c3 w3 hown hg hat
      have HO3 := Lib.hid hown
      have HG := Lib.hid hg
      clear hown hg hat
      go_wp2
      go_ret2
      exact ⟨A3, c3, by simp, HO3.out, below_grown (below_alloc HB2.out _) HG.out (fun q hq => by have := (HO2.out.row q hq).1; simp at this; omega)⟩
  · obtain ⟨k, x, hk, hx, _⟩ := fI_get hf
    have e1 : putL so (⟨ys, yn⟩ : Seen) most xs = xs.set k ⟨ys, yn⟩ := by unfold putL; rw [if_neg hf, hk]; rfl
    have e2 : putB so most xs = true := by unfold putB; rw [if_neg hf]
    rw [hk] at HI
    rw [e1, e2]
    have e3 : (xs.set k (⟨ys, yn⟩ : Seen)).length = n := by rw [List.length_set]; exact HN.out
    rw [e3]
    have hkn : k < n := by rw [← HN.out]; exact (List.getElem?_eq_some_iff.1 hx).1
    have HX := Lib.hid hx
    clear e1 e2 e3 hf hk hx
    show Calls Try.prog 44 #[_, .agg #[.string ys, .int .i64 yn], _, _] w _
    go_enter Try.func44, Try.ntmps44
    go_wp2_with (first
      | (go_at_call 43; refine (HC.out _ (H.out.below (below_alloc (Below.refl _ _) _))).mono ?_; rintro e w1 ⟨A1, c1, rfl, hown, hbel⟩; have HO := Lib.hid hown; have HB : Hid (Below w.heap.size w w1) := below_step (below_alloc (Below.refl _ _) _) hbel; have q0 := below_cell hbel (cell_new w #[.string ys, .int .i64 yn] 67 0); have q1 := below_cell hbel (cell_new w #[.string ys, .int .i64 yn] 67 1); clear hown hbel)
      | (go_at_call 42; refine (HI.out _ HB.out).mono ?_; rintro e w2 ⟨rfl, hbel⟩; have HO2 := Lib.hid (HO.out.below hbel); have HB2 : Hid (Below w.heap.size w w2) := below_step HB.out hbel; have p0 := below_cell hbel q0; have p1 := below_cell hbel q1; obtain ⟨g, rfl, hge, hlt, r0, r1⟩ := own_getN HO2.out k _ HX.out; have f0 := HO2.out.free (k * 2); have f1 := HO2.out.free (k * 2 + 1); have hne : g ≠ w.heap.size := (by simp at hge; omega); have hne2 : w.heap.size ≠ g := (by simp at hge; omega); clear hbel q0 q1))
    go_ret2
    refine ⟨some ⟨g, 0, none⟩, c1, rfl, ?_, ?_⟩
    · exact (own_setN HO2.out k x ⟨ys, yn⟩ HX.out).lower (by simp)
    · have hgw : w.heap.size ≤ g := by simp at hge; omega
      exact below_set (below_set (HB2.out) hgw _) hgw _
end Go.Proofs.Ytjehhpppihmpgaa.Boo
