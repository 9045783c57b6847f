/- The length of a slice that came in: what was read takes fewer than 2^47 bytes. -/
import Derived.Test.YtjehhpppihmpgaaOpen
namespace Go.Proofs.Ytjehhpppihmpgaa.Mem
open Go.ChangeShapes Go.WideShapes Go.RowKit
section
variable {H : Type} {enc : TypeId × Value → H} {P : Program} {w : World} {base : Nat} {spare : Nat → Bool} {held : Bool}
theorem len_En {t e : TypeId} (ht : P.underlying t = some (.slice e)) {A : Option Addr} {len c : Nat} {D : DataW H} {p : List MemPlace} (h : DataW.Trod enc P w base spare held t (.slice A len c) D p) :
    (D = .nil ∧ len = 0) ∨ ∃ el sp, D = .slice el sp ∧ el.length = len := by
  obtain ⟨fuel, hf⟩ := h
  rcases Go.Deep.open_slice ht hf with ⟨hcs, hx⟩ | ⟨a, len', cap', m, n, Dd, Pl, hcs, _, hl, hm, hmm, hx, hi⟩
  · simp [Value.cells] at hcs
    simp only [Prod.mk.injEq] at hx
    exact .inl ⟨hx.1, hcs.2.1⟩
  · simp [Value.cells] at hcs
    simp only [Prod.mk.injEq] at hx
    exact .inr ⟨_, _, hx.1, by rw [List.length_map, List.length_range]; exact hcs.2.1.symm⟩
theorem sized_En {ts : List TypeId} {ds : List (DataW H)} (hs : (DataW.weightsEach P ts ds).all (· ≤ reachBytes) = true) {j : Nat} {t e : TypeId} (ht : P.underlying t = some (.slice e)) {D : DataW H} (h1 : ts[j]? = some t) (h2 : ds[j]? = some D)
    {A : Option Addr} {len c : Nat} {p : List MemPlace} (h : DataW.Trod enc P w base spare held t (.slice A len c) D p) (b : Nat) (hb : P.bytesOf e = b) : len * b ≤ 140737488355328 := by
  subst hb
  rcases len_En ht h with ⟨_, rfl⟩ | ⟨el, sp, rfl, rfl⟩
  · omega
  · have h3 := sized_slice hs h1 h2 ht
    have h4 : el.length * P.bytesOf e ≤ (el.length + sp.length) * P.bytesOf e := Nat.mul_le_mul_right _ (Nat.le_add_right _ _)
    have h5 := reachBytes_lt
    omega
/-- A struct of a string and an integer; of a string and two. -/
theorem encSI {fs : Array Field} {t : TypeId} (hs : P.underlying t = some (.struct fs)) (hC : P.cellsOf t = 2) (k0 k1 : Field) (hf : fs = #[k0, k1]) (o0 : k0.offset = 0) (o1 : k1.offset = 1)
    {k : IntKind} (e0 : P.underlying k0.type = some .string) (e1 : P.underlying k1.type = some (.int k)) (c0 : P.cellsOf k0.type = 1) (c1 : P.cellsOf k1.type = 1)
    {n : Nat} {cs : List Value} {y : DataW H × List MemPlace} (h : DataW.trod enc P w base spare held n t cs = some y) :
    ∃ (s : ByteArray) (b : Int), cs = [.string s, .int k b] ∧ (Lit.int k b).wf = true := by
  subst hf
  obtain ⟨y0, y1, m, _, hl, h0, h1⟩ := Go.ChangeShapes.trod_struct2 hs h
  rw [hC] at hl
  obtain ⟨u0, u1, rfl⟩ : ∃ u0 u1, cs = [u0, u1] := by
    match cs, hl with
    | [a, b], _ => exact ⟨a, b, rfl⟩
  rw [o0, c0] at h0
  rw [o1, c1] at h1
  obtain ⟨a, ea, _⟩ := DataW.trod_string e0 h0
  obtain ⟨b, eb, _, wb⟩ := DataW.trod_int e1 h1
  simp at ea eb
  subst ea eb
  exact ⟨a, b, rfl, wb⟩
theorem encSII {fs : Array Field} {t : TypeId} (hs : P.underlying t = some (.struct fs)) (hC : P.cellsOf t = 3) (k0 k1 k2 : Field) (hf : fs = #[k0, k1, k2]) (o0 : k0.offset = 0) (o1 : k1.offset = 1) (o2 : k2.offset = 2)
    {k : IntKind} (e0 : P.underlying k0.type = some .string) (e1 : P.underlying k1.type = some (.int k)) (e2 : P.underlying k2.type = some (.int k)) (c0 : P.cellsOf k0.type = 1) (c1 : P.cellsOf k1.type = 1) (c2 : P.cellsOf k2.type = 1)
    {n : Nat} {cs : List Value} {y : DataW H × List MemPlace} (h : DataW.trod enc P w base spare held n t cs = some y) :
    ∃ (s : ByteArray) (b c : Int), cs = [.string s, .int k b, .int k c] ∧ (Lit.int k b).wf = true ∧ (Lit.int k c).wf = true := by
  subst hf
  obtain ⟨y0, y1, y2, m, _, hl, h0, h1, h2⟩ := Go.Deep.trod_struct3 hs h
  rw [hC] at hl
  obtain ⟨u0, u1, u2, rfl⟩ : ∃ u0 u1 u2, cs = [u0, u1, u2] := by
    match cs, hl with
    | [a, b, c], _ => exact ⟨a, b, c, rfl⟩
  rw [o0, c0] at h0
  rw [o1, c1] at h1
  rw [o2, c2] at h2
  obtain ⟨a, ea, _⟩ := DataW.trod_string e0 h0
  obtain ⟨b, eb, _, wb⟩ := DataW.trod_int e1 h1
  obtain ⟨c, ec, _, wc⟩ := DataW.trod_int e2 h2
  simp at ea eb ec
  subst ea eb ec
  exact ⟨a, b, c, rfl, wb, wc⟩
end
end Go.Proofs.Ytjehhpppihmpgaa.Mem
