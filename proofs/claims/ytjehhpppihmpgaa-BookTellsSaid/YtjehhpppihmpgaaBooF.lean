/- slices.Delete at []Slot, one element. -/
import Derived.Test.YtjehhpppihmpgaaBooE
import Derived.Deep.RegionLaw
import Derived.Laws.IdiomCopy
namespace Go.Proofs.Ytjehhpppihmpgaa.Boo
open Go.RowKit Go.Proofs.Ytjehhpppihmpgaa.Mem

theorem below_cells {B b : Nat} {a : World} (hb : B ≤ b) : ∀ (vs : List Value) (o : Nat) (w : World), Below B a w → Below B a (w.setCells b o vs)
  | [], _, _, h => h
  | v :: r, o, w, h => below_cells hb r (o + 1) _ (h.setCell (by exact hb) v)
theorem size_cells (b : Nat) : ∀ (vs : List Value) (o : Nat) (w : World), (w.setCells b o vs).heap.size = w.heap.size
  | [], _, _ => rfl
  | v :: r, o, w => by
    rw [World.setCells, size_cells b r (o + 1)]
    exact World.size_setCell _ _ _
theorem zero50 (w : World) : (zeroValue 50).run Try.prog w = .ok (.agg #[.string ⟨#[]⟩, .int .i64 0, .int .i64 0]) w := by kernel_rfl
def zL (n : Nat) : List Value := (Builtin.zeroCells (Value.cells (.agg #[.string ⟨#[]⟩, .int .i64 0, .int .i64 0])) n).toList
theorem zL_length (n : Nat) : (zL n).length = n * 3 := by
  unfold zL Builtin.zeroCells
  simp
  rfl
theorem zL_one (n : Nat) : ∀ v ∈ zL n, v.oneCell' = true := by
  intro v hv
  unfold zL Builtin.zeroCells at hv
  simp at hv
  obtain ⟨a, _, rfl⟩ := hv
  have hz : (Value.cells (.agg #[.string ⟨#[]⟩, .int .i64 0, .int .i64 0])) = #[.string ⟨#[]⟩, .int .i64 0, .int .i64 0] := rfl
  rw [hz]
  have h3 : a % (#[Value.string ⟨#[]⟩, .int .i64 0, .int .i64 0] : Array Value).size < 3 := Nat.mod_lt _ (by decide)
  generalize a % (#[Value.string ⟨#[]⟩, .int .i64 0, .int .i64 0] : Array Value).size = q at h3
  rcases q with _ | _ | _ | q
  · rfl
  · rfl
  · rfl
  · omega
theorem run_clear50 (w : World) (ty : TypeId) (b o n c : Nat) (hn : 0 < n)
    (hc : ∀ j, j < n * 3 → (w.cell? ⟨b, o + j, none⟩).isSome = true) (hf : ∀ j, j < n * 3 → w.frozen? ⟨b, o + j, none⟩ = false) :
    (Builtin.clear_ #[23] ty #[.slice (some ⟨b, o, none⟩) n c]).run Try.prog w = .ok (.tuple #[]) (w.setCells b o (zL n)) := by
  have hst := run_storeCells_cells (P := Try.prog) b o (zL n) 0 w (by simpa [zL_length] using hc) (by simpa [zL_length] using hf) (zL_one n)
  simp only [Nat.add_zero] at hst
  obtain ⟨m, rfl⟩ : ∃ m, n = m + 1 := ⟨n - 1, by omega⟩
  unfold zL at hst ⊢
  simp [Builtin.clear_, run_underlying Try.underlying23, hst]

theorem cs_drop_length (xs : List Slot) (j : Nat) : (dL.cs (xs.drop j)).length = (xs.length - j) * 3 := by rw [dL.cs_length, List.length_drop]; rfl
theorem delL_any (g off c i j n : Nat) (xs : List Slot) (hn : xs.length = n) (hi : i < n) (hj : j = i + 1) (hc : n ≤ c) (hm : c ≤ 9223372036854775807) (w : World)
    (hcell : ∀ k, k < n * 3 → w.cell? ⟨g, off + k, none⟩ = (dL.cs xs)[k]?) (hfr : ∀ k, k < n * 3 → w.frozen? ⟨g, off + k, none⟩ = false) (hg : g < w.heap.size) (B : Nat) (hB : B ≤ g) :
    Calls Try.prog 40 #[.slice (some ⟨g, off, none⟩) n c, .int .i64 i, .int .i64 j] w fun e w' => e = .returned (.slice (some ⟨g, off, none⟩) (n - 1) c) ∧ dL.At w' (some ⟨g, off, none⟩) c (xs.eraseIdx i) ∧ Below B w w' := by
  have hjn : j ≤ n := by omega
  obtain ⟨i0, hi0, hz0, hz1, hz2⟩ := info_parts info50
  obtain ⟨news, hnews⟩ : ∃ news, news = dL.cs (xs.drop j) := ⟨_, rfl⟩
  have hlen : news.length = (n - j) * 3 := by rw [hnews, cs_drop_length, hn]
  have hcl : (dL.cs xs).length = n * 3 := by rw [dL.cs_length, hn]; rfl
  have hget : ∀ t, news[t]? = (dL.cs xs)[j * 3 + t]? := fun t => by
    rw [hnews, dL.cs_drop, List.getElem?_drop]; rfl
  obtain ⟨A, hA, hsrc⟩ : ∃ A : Addr, (if c = j then some (⟨g, off, none⟩ : Addr) else some ⟨g, off + j * 3, none⟩) = some A ∧ Hid (∀ t u, news[t]? = some u → w.drew.cell? (A.add t) = some u) := by
    by_cases h : c = j
    · refine ⟨⟨g, off, none⟩, by simp [h], fun t u hu => ?_⟩
      have h0 : news.length = 0 := by rw [hlen]; omega
      rw [List.length_eq_zero_iff.1 h0] at hu
      simp at hu
    · refine ⟨⟨g, off + j * 3, none⟩, by simp [h], fun t u hu => ?_⟩
      have ht : t < (n - j) * 3 := by
        have := (List.getElem?_eq_some_iff.1 hu).1
        rwa [hlen] at this
      rw [hget t] at hu
      rw [Addr.add_lit, show off + j * 3 + t = off + (j * 3 + t) by omega]
      exact (hcell (j * 3 + t) (by omega)).trans hu
  have s1 : Hid (news.length = (n - j) * 3) := hlen
  have s2 : Hid (∀ u ∈ news, u.oneCell' = true) := by
    rw [hnews]; exact dL.cs_mem _
  have some_of : ∀ k, k < n * 3 → (w.cell? ⟨g, off + k, none⟩).isSome = true := fun k hk => by
    rw [hcell k hk, List.getElem?_eq_getElem (by omega)]; rfl
  have s3 : Hid (∀ t, t < news.length → (w.drew.cell? ⟨g, off + i * 3 + t, none⟩).isSome = true ∧ w.drew.frozen? ⟨g, off + i * 3 + t, none⟩ = false) := by
    intro t ht
    rw [hlen] at ht
    rw [Nat.add_assoc]
    exact ⟨some_of _ (by omega), hfr _ (by omega)⟩
  obtain ⟨W1, hW1⟩ : ∃ W1, W1 = w.drew.setCells g (off + i * 3) news := ⟨_, rfl⟩
  have w1some : ∀ k, k < n * 3 → (W1.cell? ⟨g, off + k, none⟩).isSome = true := fun k hk => by
    rw [hW1]
    by_cases h : i * 3 ≤ k ∧ k < i * 3 + news.length
    · obtain ⟨t, rfl⟩ : ∃ t, k = i * 3 + t := ⟨k - i * 3, by omega⟩
      rw [← Nat.add_assoc, World.cell?_setCells_in g news (off + i * 3) w.drew (fun t ht => (s3.out t ht).1) t (by omega)]
      rfl
    · rw [World.cell?_setCells_out g news (off + i * 3) w.drew _ (fun _ _ => by simp only []; omega)]
      exact some_of k hk
  have w1fr : ∀ k, k < n * 3 → W1.frozen? ⟨g, off + k, none⟩ = false := fun k hk => by
    rw [hW1, World.frozen?_setCells]; exact hfr k hk
  obtain ⟨W2, hW2⟩ : ∃ W2, W2 = W1.setCells g (off + (i + (n - j)) * 3) (zL (n - (i + (n - j)))) := ⟨_, rfl⟩
  have hcl2 : ∀ ty, (Builtin.clear_ #[23] ty #[.slice (some ⟨g, off + (i + (n - j)) * 3, none⟩) (n - (i + (n - j))) (c - (i + (n - j)))]).run Try.prog W1 = .ok (.tuple #[]) W2 :=
    fun ty => by
      rw [hW2]
      exact run_clear50 W1 ty g (off + (i + (n - j)) * 3) _ _ (by omega) (fun t ht => by rw [Nat.add_assoc]; exact w1some _ (by omega)) (fun t ht => by rw [Nat.add_assoc]; exact w1fr _ (by omega))
  have hcellEnd : dL.At W2 (some ⟨g, off, none⟩) c (xs.eraseIdx i) := by
    have hle : (xs.eraseIdx i).length = n - 1 := by rw [List.length_eraseIdx, if_pos (by omega), hn]
    refine ⟨by omega, hm, fun h => by (cases h), fun h0 => ⟨g, off, rfl, ?_, fun k hk => ?_⟩⟩
    · rw [hW2, size_cells, hW1, size_cells]; exact hg
    · have hk2 : k < (n - 1) * 3 := by rw [hle] at hk; exact hk
      rw [hW2, World.cell?_setCells_out g _ _ W1 _ (fun _ _ => by simp only []; omega), List.eraseIdx_eq_take_drop_succ, dL.cs_append, ← hj, hW1]
      have hti : (dL.cs (xs.take i)).length = i * 3 := by rw [dL.cs_length, List.length_take, hn, Nat.min_eq_left (by omega)]; rfl
      by_cases h : k < i * 3
      · rw [World.cell?_setCells_out g news (off + i * 3) w.drew _ (fun _ _ => by simp only []; omega), List.getElem?_append_left (by omega), dL.cs_take xs i k h]
        exact hcell k (by omega)
      · obtain ⟨t, rfl⟩ : ∃ t, k = i * 3 + t := ⟨k - i * 3, by omega⟩
        have ht : t < news.length := by omega
        rw [← Nat.add_assoc, World.cell?_setCells_in g news (off + i * 3) w.drew (fun t ht => (s3.out t ht).1) t ht, List.getElem?_append_right (by omega), hti, ← hnews, Nat.add_sub_cancel_left, List.getElem?_eq_getElem ht]
  have hbel : Below B w W2 := by
    rw [hW2, hW1]
    exact below_cells hB _ _ _ (below_cells hB _ _ _ (below_drew (Below.refl _ _)))
  have E1 := Lib.hid hcellEnd
  have E2 := Lib.hid hbel
  have hW : Hid (W1 = w.drew.setCells g (off + i * 3) news) := hW1
  have hic : i ≤ c := by omega
  have hjc : j ≤ c := by omega
  have hij : ¬ (i = j) := by omega
  have hij2 : i < j := by omega
  have HJ := Lib.hid hj
  clear hW1 hW2 hcellEnd hbel w1some w1fr some_of hcell hfr hget hnews hlen hcl hj
  go_enter Try.func40, Try.ntmps40
  go_wp2_with fail
  go_region_law (refine step_append_room rfl (.tmp 22) (.tmp 25) 23 rfl 50 i0 3 Try.underlying23 hi0 hz1 g off i c (by simp [Act.eval, Act.put]) A (n - j) (c - j) news (by simp [Act.eval, Act.put]) s1.out hsrc.out s2.out (by omega) s3.out ?_; rw [← hW.out])
  go_wp2
  go_ret
  exact ⟨by rw [show n - 1 = i + (n - j) by have := HJ.out; omega]; rfl, E1.out, E2.out⟩
end Go.Proofs.Ytjehhpppihmpgaa.Boo
