/- The length of a slice that came in: what was read takes fewer than 2^47 bytes. -/
import Derived.Test.YtkmmiiaadoinpaaOpen
namespace Go.Proofs.Ytkmmiiaadoinpaa.Mem
open Go.ChangeShapes Go.WideShapes Go.RowKit
section
variable {H : Type} {enc : TypeId × Value → H} {P : Program} {w : World} {base : Nat} {spare : Nat → Bool} {held : Bool}
theorem len_En {t e : TypeId} (ht : P.underlying t = some (.slice e)) {A : Option Addr} {len c : Nat} {D : DataW H} {p : List MemPlace} (h : DataW.Trod enc P w base spare held t (.slice A len c) D p) :
    (D = .nil ∧ len = 0) ∨ ∃ el sp, D = .slice el sp ∧ el.length = len := by
  obtain ⟨fuel, hf⟩ := h
  rcases Go.Deep.open_slice ht hf with ⟨hcs, hx⟩ | ⟨a, len', cap', m, n, Dd, Pl, hcs, _, hl, hm, hmm, hx, hi⟩
  · simp [Value.cells] at hcs
    simp only [Prod.mk.injEq] at hx
    exact .inl ⟨hx.1, hcs.2.1⟩
  · simp [Value.cells] at hcs
    simp only [Prod.mk.injEq] at hx
    exact .inr ⟨_, _, hx.1, by rw [List.length_map, List.length_range]; exact hcs.2.1.symm⟩
theorem sized_En {ts : List TypeId} {ds : List (DataW H)} (hs : (DataW.weightsEach P ts ds).all (· ≤ reachBytes) = true) {j : Nat} {t e : TypeId} (ht : P.underlying t = some (.slice e)) {D : DataW H} (h1 : ts[j]? = some t) (h2 : ds[j]? = some D)
    {A : Option Addr} {len c : Nat} {p : List MemPlace} (h : DataW.Trod enc P w base spare held t (.slice A len c) D p) (b : Nat) (hb : P.bytesOf e = b) : len * b ≤ 140737488355328 := by
  subst hb
  rcases len_En ht h with ⟨_, rfl⟩ | ⟨el, sp, rfl, rfl⟩
  · omega
  · have h3 := sized_slice hs h1 h2 ht
    have h4 : el.length * P.bytesOf e ≤ (el.length + sp.length) * P.bytesOf e := Nat.mul_le_mul_right _ (Nat.le_add_right _ _)
    have h5 := reachBytes_lt
    omega
end
end Go.Proofs.Ytkmmiiaadoinpaa.Mem
