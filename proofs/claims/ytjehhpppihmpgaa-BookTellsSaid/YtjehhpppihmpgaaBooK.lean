/- Fresh; names. -/
import Derived.Test.YtjehhpppihmpgaaBooJ
namespace Go.Proofs.Ytjehhpppihmpgaa.Boo
open Go.RowKit Go.Proofs.Ytjehhpppihmpgaa.Mem

def okF (s : ByteArray) (n : Int) : Bool := nameB s && decide (1 ≤ n ∧ n ≤ 1000000000000)
def MadeF (w : World) (xs : List Seen) (n : Nat) (b : Bool) (e : Int) (r : Ending) (w' : World) : Prop := ∃ A c, r = .returned (.tuple #[.slice A n c, .bool b, .int .i64 e]) ∧ dN.At w' A c xs ∧ Below w.heap.size w w'
theorem box_at (w : World) (s : ByteArray) : AtS (w.alloc (.cells #[.string s] 9)) w.heap.size s := cell_new w #[.string s] 9 0
theorem fresh_old (A : Option Addr) (c m k : Nat) (xs : List Seen) (hm : xs.length = m) (s : ByteArray) (n : Int) (x : Seen) (w : World) (h : dN.At w A c xs) (hb : m * 24 ≤ 140737488355328) (hs : s.size ≤ 9223372036854775807) (hk : okF s n = true) (hf : fI (soN s) xs = k) (hx : xs[k]? = some x) (hle2 : n ≤ x.n) :
    Calls Try.prog 23 #[.slice A m c, .string s, .int .i64 n] w (MadeF w xs m false 0) := by
  have HN := Lib.hid (fun W => name_any s W hs)
  unfold okF at hk
  rw [Bool.and_eq_true, decide_eq_true_iff] at hk
  obtain ⟨hn1, g0, g1⟩ := hk
  rw [hn1] at HN
  have H := Lib.hid h
  have hle : m ≤ c := by rw [← hm]; exact h.le
  have hmax := h.max
  have HI := Lib.hid (fun (B : Nat) (W : World) (hS : AtS W B s) (hA : dN.At W A c xs) => idxN_any A c m xs hm (soN s) 41 #[.pointer (some ⟨B, 0, none⟩)] W ent41 hA (fun x W' hW => fr1_any x s B W' (hS.below hW)))
  rw [hf] at HI
  have HC := Lib.hid (fun (W : World) (hA : dN.At W A c xs) => cloneN_any A c m xs hm W hA hb)
  have hg0 : ¬ (n < 1) := by omega
  have hg1 : ¬ (1000000000000 < n) := by omega
  have hkm : k < m := by rw [← hm]; exact (List.getElem?_eq_some_iff.1 hx).1
  have HX := Lib.hid hx
  have HS0 := Lib.hid (box_at w s)
  clear h hm hn1 hs hf hx
  go_enter Try.func23, Try.ntmps23
  go_wp2_with (first
    | (go_at_call 29; refine (HN.out _).mono ?_; rintro e w1 ⟨rfl, hbel⟩; have HB := Lib.hid (below_step (below_alloc (Below.refl _ _) _) hbel); have HA := Lib.hid ((H.out.below (below_alloc (Below.refl _ _) _)).below hbel); have HS := Lib.hid (HS0.out.below hbel); have hc1 := below_cell hbel HS0.out; clear hbel)
    | (go_at_call 42; refine (HI.out _ _ HS.out HA.out).mono ?_; rintro e w2 ⟨rfl, hbel⟩; have HB2 := Lib.hid (below_step HB.out hbel); have HA2 := Lib.hid (HA.out.below hbel); obtain ⟨b, off, rfl, hbl, c0, c1⟩ := at_getN HA2.out k _ HX.out; clear hbel)
    | (go_at_call 43; refine (HC.out _ HA2.out).mono ?_; rintro e w3 ⟨A3, c3, rfl, hown, hbel⟩; have HB3 := Lib.hid (below_step HB2.out hbel); have HO := Lib.hid hown.at_; clear hown hbel))
  refine bodyPost_ret (v := .tuple #[.slice A3 m c3, .bool false, .int .i64 0]) (by simp [results, Try.results23, go_sem]) rfl ⟨A3, c3, rfl, HO.out, HB3.out⟩
theorem fresh_new (A : Option Addr) (c m : Nat) (xs : List Seen) (hm : xs.length = m) (s : ByteArray) (n : Int) (w : World) (h : dN.At w A c xs) (hb : m * 24 ≤ 140737488355328) (hs : s.size ≤ 9223372036854775807) (hk : okF s n = true)
    (hf : fI (soN s) xs = -1 ∨ ∃ (k : Nat) (x : Seen), fI (soN s) xs = k ∧ xs[k]? = some x ∧ x.n < n) (b : Bool) (hbb : putB (soN s) 8 xs = b) :
    Calls Try.prog 23 #[.slice A m c, .string s, .int .i64 n] w (MadeF w (putL (soN s) ⟨s, n⟩ 8 xs) (putL (soN s) ⟨s, n⟩ 8 xs).length b (if b then 0 else 50)) := by
  have HN := Lib.hid (fun W => name_any s W hs)
  unfold okF at hk
  rw [Bool.and_eq_true, decide_eq_true_iff] at hk
  obtain ⟨hn1, g0, g1⟩ := hk
  rw [hn1] at HN
  have H := Lib.hid h
  have hle : m ≤ c := by rw [← hm]; exact h.le
  have hmax := h.max
  have HI := Lib.hid (fun (B : Nat) (W : World) (hS : AtS W B s) (hA : dN.At W A c xs) => idxN_any A c m xs hm (soN s) 41 #[.pointer (some ⟨B, 0, none⟩)] W ent41 hA (fun x W' hW => fr1_any x s B W' (hS.below hW)))
  have HW := Lib.hid (fun (B : Nat) (W : World) (hS : AtS W B s) (hA : dN.At W A c xs) => withN_any A c m 8 xs hm ⟨s, n⟩ (soN s) 41 #[.pointer (some ⟨B, 0, none⟩)] W ent41 hA hb (by decide) (fun x W' hW => fr1_any x s B W' (hS.below hW)))
  rw [hbb] at HW
  have hg0 : ¬ (n < 1) := by omega
  have hg1 : ¬ (1000000000000 < n) := by omega
  have HS0 := Lib.hid (box_at w s)
  cases b with
  | false =>
    have hf1 : fI (soN s) xs = -1 := by
      unfold putB at hbb
      split at hbb
      · assumption
      · cases hbb
    rw [putB_no hbb] at HW ⊢
    rw [hf1] at HI
    clear h hm hn1 hs hbb hf hf1
    go_enter Try.func23, Try.ntmps23
    go_wp2_with (first
      | (go_at_call 29; refine (HN.out _).mono ?_; rintro e w1 ⟨rfl, hbel⟩; have HB := Lib.hid (below_step (below_alloc (Below.refl _ _) _) hbel); have HA := Lib.hid ((H.out.below (below_alloc (Below.refl _ _) _)).below hbel); have HS := Lib.hid (HS0.out.below hbel); have hc1 := below_cell hbel HS0.out; clear hbel)
      | (go_at_call 42; refine (HI.out _ _ HS.out HA.out).mono ?_; rintro e w2 ⟨rfl, hbel⟩; have HB2 := Lib.hid (below_step HB.out hbel); have HA2 := Lib.hid (HA.out.below hbel); have HS2 := Lib.hid (HS.out.below hbel); have hc2 := below_cell hbel hc1; clear hbel)
      | (go_at_call 44; refine (HW.out _ _ HS2.out HA2.out).mono ?_; rintro e w3 ⟨A3, c3, rfl, hown, hbel⟩; have HB3 := Lib.hid (below_step HB2.out hbel); clear hown hbel))
    refine bodyPost_ret (v := .tuple #[.slice none 0 0, .bool false, .int .i64 50]) (by simp [results, Try.results23, go_sem]) rfl ⟨none, 0, rfl, En.At.none_, HB3.out⟩
  | true =>
    rcases hf with hf | ⟨k, x, hf, hx, hlt⟩
    · rw [hf] at HI
      clear h hm hn1 hs hbb hf
      go_enter Try.func23, Try.ntmps23
      go_wp2_with (first
        | (go_at_call 29; refine (HN.out _).mono ?_; rintro e w1 ⟨rfl, hbel⟩; have HB := Lib.hid (below_step (below_alloc (Below.refl _ _) _) hbel); have HA := Lib.hid ((H.out.below (below_alloc (Below.refl _ _) _)).below hbel); have HS := Lib.hid (HS0.out.below hbel); have hc1 := below_cell hbel HS0.out; clear hbel)
        | (go_at_call 42; refine (HI.out _ _ HS.out HA.out).mono ?_; rintro e w2 ⟨rfl, hbel⟩; have HB2 := Lib.hid (below_step HB.out hbel); have HA2 := Lib.hid (HA.out.below hbel); have HS2 := Lib.hid (HS.out.below hbel); have hc2 := below_cell hbel hc1; clear hbel)
        | (go_at_call 44; refine (HW.out _ _ HS2.out HA2.out).mono ?_; rintro e w3 ⟨A3, c3, rfl, hown, hbel⟩; have HB3 := Lib.hid (below_step HB2.out hbel); have HO := Lib.hid hown.at_; clear hown hbel))
      refine bodyPost_ret (v := .tuple #[.slice A3 (putL (soN s) ⟨s, n⟩ 8 xs).length c3, .bool true, .int .i64 0]) (by simp [results, Try.results23, go_sem]) rfl ⟨A3, c3, rfl, HO.out, HB3.out⟩
    · rw [hf] at HI
      have hkm : k < m := by rw [← hm]; exact (List.getElem?_eq_some_iff.1 hx).1
      have HX := Lib.hid hx
      have hnl : ¬ (n ≤ x.n) := by omega
      clear h hm hn1 hs hbb hf hx hlt
      go_enter Try.func23, Try.ntmps23
      go_wp2_with (first
        | (go_at_call 29; refine (HN.out _).mono ?_; rintro e w1 ⟨rfl, hbel⟩; have HB := Lib.hid (below_step (below_alloc (Below.refl _ _) _) hbel); have HA := Lib.hid ((H.out.below (below_alloc (Below.refl _ _) _)).below hbel); have HS := Lib.hid (HS0.out.below hbel); have hc1 := below_cell hbel HS0.out; clear hbel)
        | (go_at_call 42; refine (HI.out _ _ HS.out HA.out).mono ?_; rintro e w2 ⟨rfl, hbel⟩; have HB2 := Lib.hid (below_step HB.out hbel); have HA2 := Lib.hid (HA.out.below hbel); have HS2 := Lib.hid (HS.out.below hbel); have hc2 := below_cell hbel hc1; obtain ⟨b, off, rfl, hbl, c0, c1⟩ := at_getN HA2.out k _ HX.out; clear hbel)
        | (go_at_call 44; refine (HW.out _ _ HS2.out HA2.out).mono ?_; rintro e w3 ⟨A3, c3, rfl, hown, hbel⟩; have HB3 := Lib.hid (below_step HB2.out hbel); have HO := Lib.hid hown.at_; clear hown hbel))
      refine bodyPost_ret (v := .tuple #[.slice A3 (putL (soN s) ⟨s, n⟩ 8 xs).length c3, .bool true, .int .i64 0]) (by simp [results, Try.results23, go_sem]) rfl ⟨A3, c3, rfl, HO.out, HB3.out⟩
end Go.Proofs.Ytjehhpppihmpgaa.Boo
