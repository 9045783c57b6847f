/- The reference's Offers; equality of offers. -/
import Derived.Test.YtjehhpppihmpgaaBooR
namespace Go.Proofs.Ytjehhpppihmpgaa.Boo
open Go.RowKit Go.Proofs.Ytjehhpppihmpgaa.Mem

theorem at_oneF {W : World} {g : Nat} {m : Offer} (h0 : W.cell? ⟨g, 0, none⟩ = some (.string m.s)) (h1 : W.cell? ⟨g, 1, none⟩ = some (.int .i64 m.p)) : dF.At W (some ⟨g, 0, none⟩) 1 [m] :=
  ⟨Nat.le_refl _, by omega, (fun e => by cases e), fun _ => ⟨g, 0, rfl, World.block_lt_of_cell? W _ h0, fun i hi => by
    have hi3 : i < 2 := hi
    match i, hi3 with
    | 0, _ => exact h0
    | 1, _ => exact h1⟩⟩
theorem roffers_any (A : Option Addr) (c n : Nat) (xs : List Slot) (hn : xs.length = n) (w : World) (h : dL.At w A c xs) (hb : n * 32 ≤ 140737488355328) :
    Calls Try.prog 22 #[.slice A n c] w (MadeA dF w.heap.size w (offL xs) n) := by
  obtain ⟨i0, hi, iz, isz, iby⟩ := info_parts info41
  have H := Lib.hid h
  have hle : n ≤ c := by rw [← hn]; exact h.le
  have hmax := h.max
  have HN := Lib.hid hn
  clear h hn
  go_enter Try.func22, Try.ntmps22
  go_wp2
  go_loopw [3, 4] (fun ov iv wr => ∃ (k : Nat) (A' : Option Addr) (c' : Nat), k ≤ n ∧ iv = .int .i64 k ∧ ov = .slice A' k c' ∧ Hid (dF.Own 41 wr w.heap.size A' c' (offL (xs.take k))) ∧ Hid (Below w.heap.size w wr)) (fun _ iv _ => n - (intOf iv).toNat)
  case atStart => exact ⟨0, none, 0, Nat.zero_le _, rfl, rfl, En.Own.none_ _ _ _, Below.refl _ _⟩
  case round =>
    obtain ⟨k, A', c', hk, rfl, rfl, HO, HB⟩ := hrel
    by_cases hlt : k < n
    · have hx : xs[k]? = some (xs[k]'(by have := HN.out; omega)) := List.getElem?_eq_getElem _
      obtain ⟨b, off, rfl, hbl, z0, z1, z2⟩ := at_getL H.out k _ hx
      have c0 := below_cell HB.out z0
      have c1 := below_cell HB.out z1
      have c2 := below_cell HB.out z2
      clear z0 z1 z2
      generalize xs[k]'(by have := HN.out; omega) = x at c0 c1 c2 hx
      have HT := Lib.hid (take_map hx)
      have hl : Hid ((offL (xs.take k)).length = k) := by unfold offL; rw [List.length_map, List.length_take, HN.out, Nat.min_eq_left (by omega)]; trivial
      clear hx
      have hcc := And.intro c0 (And.intro c1 c2)
      have hown := Lib.hid (HO.out.row)
      have hnb : Hid ((some b : Option Nat) ≠ (Value.slice A' k c').ownBlock) := fun e => absurd (hown.out b (by rw [hl.out]; exact e.symm)).1 (by omega)
      go_wp2_with fail
      go_region_held3 (fun w' => w'.cell? ⟨b, off + k * 3, none⟩ = some (.string x.s) ∧ w'.cell? ⟨b, off + k * 3 + 1, none⟩ = some (.int .i64 x.p) ∧ w'.cell? ⟨b, off + k * 3 + 2, none⟩ = some (.int .i64 x.t))
        (first
          | exact grown3 hg hnb.out hnb.out hnb.out (by assumption)
          | go_keep)
        (first
          | (refine step_app dF _ (by rfl) _ _ _ (by rfl) w.heap.size 41 i0 _ 24 Try.underlying38 hi iz isz iby rfl A' c' _ (offL (xs.take k)) (by rfl) hl.out.symm ?_ _ _ _ [⟨x.s, x.p⟩] (by rfl) rfl ?_ ?_ ?_ ?_ ?_; (refine HO.out.below ?_; (repeat (first | exact Below.refl _ _ | refine below_alloc ?_ _ | refine below_drew ?_ | refine below_drewN ?_ _))); (refine at_oneF ?_ ?_ <;> (go_simp; done)); (have h9 := hl.out; simp; omega); (have h9 := hl.out; simp; omega); (have h9 := HB.out.size; simp; omega); rw [hl.out]; intro A3 c3 w3 hown3 hg hat; rw [← HT.out] at hown3; have HO3 := Lib.hid hown3; have HG := Lib.hid hg; clear hown3))
      all_goals go_wp2
      all_goals go_roundw
      case rel =>
        have hfin : Hid (Below w.heap.size w w3) := below_grown (by (repeat (first | exact HB.out | refine below_alloc ?_ _ | refine below_drew ?_ | refine below_drewN ?_ _))) HG.out (fun q hq => (hown.out q (by rw [hl.out]; exact hq)).1)
        exact ⟨k + 1, A3, c3, by omega, by go_num, slc (by rw [hl.out]), HO3, hfin⟩
      case measure => simp [intOf]; omega
    · obtain rfl : k = n := by omega
      have HE : Hid (xs.take k = xs) := by rw [← HN.out, List.take_length]; trivial
      go_wp2
      go_ret
      exact ⟨A', c', rfl, by rw [← HE.out]; exact HO.out.at_, HB.out⟩
end Go.Proofs.Ytjehhpppihmpgaa.Boo
