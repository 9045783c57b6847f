/- MarketOrder: its walk. -/
import Derived.Test.YtkmmiiaadoinpaaMarM
namespace Go.Proofs.Ytkmmiiaadoinpaa.Mar
open Go.RowKit Go.Proofs.Ytkmmiiaadoinpaa.Mem

def fixM (m : Mail) : Mail := ⟨m.s, m.v, 10 * m.v + m.s + 1⟩
def Small (m : Mail) : Prop := 0 ≤ m.s ∧ m.s < 3 ∧ 0 ≤ m.v ∧ m.v < 9 ∧ 1 ≤ m.p ∧ m.p ≤ 900
theorem mails_small (rs : List Mail) : ∀ m ∈ mailsL rs, Small m := fun m hm => by
  obtain ⟨r, _, rfl⟩ := List.mem_map.1 hm
  have h0 := pick_bd r.s 3 (by omega)
  have h1 := pick_bd r.v 9 (by omega)
  have h2 := pick_bd r.p 900 (by omega)
  exact ⟨h0.1, h0.2, h1.1, h1.2, by show 1 ≤ 1 + pickI r.p 900; omega, by show 1 + pickI r.p 900 ≤ 900; omega⟩

/-! The plain law. -/
def Z3 : List Shown := [⟨0, 0⟩, ⟨0, 0⟩, ⟨0, 0⟩]
def sUp (xs : List Mail) (k : Nat) : List Shown := (xs.take k).foldl (fun s m => showL s (fixM m)) Z3
def rot (xs : List Mail) (r : Nat) : List Mail := (List.range xs.length).map fun i => xs.getD ((r + i) % xs.length) ⟨0, 0, 0⟩
theorem rot_len (xs : List Mail) (r : Nat) : (rot xs r).length = xs.length := by simp [rot]
theorem rot_get (xs : List Mail) (r k : Nat) (hk : k < xs.length) : (rot xs r)[k]? = some (xs.getD ((r + k) % xs.length) ⟨0, 0, 0⟩) := by
  unfold rot; rw [List.getElem?_map, List.getElem?_range hk]; rfl
theorem sUp_succ (xs : List Mail) (k : Nat) (x : Mail) (hx : xs[k]? = some x) : sUp xs (k + 1) = showL (sUp xs k) (fixM x) := by
  unfold sUp; rw [take_snoc xs k x hx, List.foldl_append]; rfl
theorem fold_len (ms : List Mail) (S : List Shown) : (ms.foldl (fun s m => showL s (fixM m)) S).length = S.length := by
  induction ms generalizing S with
  | nil => rfl
  | cons m ms ih => rw [List.foldl_cons, ih, showL_len]
theorem sUp_len (xs : List Mail) (k : Nat) : (sUp xs k).length = 3 := fold_len _ _

/-- Place j of what is shown: none greater came, and it came or is what it was. -/
def Best (ms : List Mail) (j : Nat) (x : Shown) : Prop := (x = ⟨0, 0⟩ ∨ (0 < x.v ∧ x.p = 10 * x.v + j + 1 ∧ ∃ m ∈ ms, m.s = j ∧ m.v = x.v)) ∧ ∀ m ∈ ms, m.s = j → m.v ≤ x.v
theorem Best.unique {ms ms' : List Mail} {j : Nat} {x y : Shown} (he : ∀ m, m ∈ ms ↔ m ∈ ms') (hx : Best ms j x) (hy : Best ms' j y) : x = y := by
  have hv : x.v = y.v := by
    have h1 : x.v ≤ y.v ∨ x = ⟨0, 0⟩ := by
      rcases hx.1 with h | ⟨_, _, m, hm, hs, hv⟩
      · exact .inr h
      · left; rw [← hv]; exact hy.2 m ((he m).1 hm) hs
    have h2 : y.v ≤ x.v ∨ y = ⟨0, 0⟩ := by
      rcases hy.1 with h | ⟨_, _, m, hm, hs, hv⟩
      · exact .inr h
      · left; rw [← hv]; exact hx.2 m ((he m).2 hm) hs
    have z : ∀ (u : Shown), u = ⟨0, 0⟩ → u.v = 0 := fun u hu => by rw [hu]
    have p1 : 0 ≤ x.v := by rcases hx.1 with h | ⟨h, _⟩; (rw [z x h]; omega); omega
    have p2 : 0 ≤ y.v := by rcases hy.1 with h | ⟨h, _⟩; (rw [z y h]; omega); omega
    rcases h1 with h1 | h1 <;> rcases h2 with h2 | h2
    · omega
    · rw [z y h2] at *; omega
    · rw [z x h1] at *; omega
    · rw [h1, h2]
  rcases hx.1 with h1 | ⟨h1, h2, _⟩ <;> rcases hy.1 with k1 | ⟨k1, k2, _⟩
  · rw [h1, k1]
  · rw [h1] at hv; simp at hv; omega
  · rw [k1] at hv; simp at hv; omega
  · cases x; cases y; simp at hv h2 k2 ⊢; omega
theorem Best.step {ms : List Mail} {S : List Shown} (hS : S.length = 3) (h : ∀ j x, S[j]? = some x → Best ms j x) (m : Mail) (hm : Small m) : ∀ j x, (showL S (fixM m))[j]? = some x → Best (ms ++ [m]) j x := fun j x hx => by
  obtain ⟨h0, h3, hv0, _⟩ := hm
  by_cases hj : (j : Int) = m.s
  · have hjl : j < S.length := by omega
    have hy : S[j]? = some S[j] := List.getElem?_eq_getElem hjl
    have hb := h j _ hy
    rcases showL_at S (fixM m) j hjl hj.symm _ hy with ⟨hlt, e⟩ | ⟨hlt, e⟩
    · rw [e] at hx
      obtain rfl := Option.some.inj hx
      have hlt' : (S[j]).v < m.v := hlt
      have hge : 0 ≤ (S[j]).v := by
        rcases hb.1 with h | ⟨h, _⟩
        · rw [h]; exact Int.le_refl _
        · omega
      refine ⟨.inr ⟨by show 0 < m.v; omega, by show 10 * m.v + m.s + 1 = 10 * m.v + j + 1; omega, m, by simp, hj.symm, rfl⟩, fun m' hm' hs' => ?_⟩
      rcases List.mem_append.1 hm' with hm' | hm'
      · have := hb.2 m' hm' hs'
        show m'.v ≤ m.v
        omega
      · rw [List.mem_singleton.1 hm']; exact Int.le_refl _
    · rw [e] at hx
      obtain rfl := Option.some.inj hx
      refine ⟨?_, fun m' hm' hs' => ?_⟩
      · rcases hb.1 with h | ⟨h, h', m', hm', k⟩
        · exact .inl h
        · exact .inr ⟨h, h', m', List.mem_append_left _ hm', k⟩
      · rcases List.mem_append.1 hm' with hm' | hm'
        · exact hb.2 m' hm' hs'
        · rw [List.mem_singleton.1 hm']; exact Int.not_lt.1 hlt
  · rw [showL_other S (fixM m) j hj] at hx
    have hb := h j _ hx
    refine ⟨?_, fun m' hm' hs' => ?_⟩
    · rcases hb.1 with h | ⟨h, h', m', hm', k⟩
      · exact .inl h
      · exact .inr ⟨h, h', m', List.mem_append_left _ hm', k⟩
    · rcases List.mem_append.1 hm' with hm' | hm'
      · exact hb.2 m' hm' hs'
      · rw [List.mem_singleton.1 hm'] at hs'; exact absurd hs'.symm hj
theorem Best.fold (ms ms0 : List Mail) (S : List Shown) (hS : S.length = 3) (h : ∀ j x, S[j]? = some x → Best ms0 j x) (hm : ∀ m ∈ ms, Small m) : ∀ j x, (ms.foldl (fun s m => showL s (fixM m)) S)[j]? = some x → Best (ms0 ++ ms) j x := by
  induction ms generalizing S ms0 with
  | nil => intro j x hx; rw [List.append_nil]; exact h j x hx
  | cons m ms ih =>
    intro j x hx
    have := ih (ms0 ++ [m]) (showL S (fixM m)) ((showL_len _ _).trans hS) (Best.step hS h m (hm m (List.mem_cons_self ..))) (fun m' hm' => hm m' (List.mem_cons_of_mem _ hm')) j x hx
    rwa [List.append_assoc] at this
theorem rot_mem (xs : List Mail) (r : Nat) (m : Mail) : m ∈ xs ↔ m ∈ rot xs r := by
  constructor
  · intro h
    obtain ⟨k, hk, rfl⟩ := List.mem_iff_getElem.1 h
    refine List.mem_map.2 ⟨(k + xs.length - r % xs.length) % xs.length, List.mem_range.2 (Nat.mod_lt _ (by omega)), ?_⟩
    have hr : r % xs.length < xs.length := Nat.mod_lt _ (by omega)
    have e : (r + (k + xs.length - r % xs.length) % xs.length) % xs.length = k := by
      rw [Nat.add_mod, Nat.mod_mod, ← Nat.add_mod]
      have : r + (k + xs.length - r % xs.length) = k + xs.length * (r / xs.length + 1) := by
        have := Nat.div_add_mod r xs.length
        rw [Nat.mul_add, Nat.mul_one]; omega
      rw [this, Nat.add_mul_mod_self_left, Nat.mod_eq_of_lt hk]
    rw [e, List.getD_eq_getElem?_getD, List.getElem?_eq_getElem hk]; rfl
  · intro h
    obtain ⟨i, hi, rfl⟩ := List.mem_map.1 h
    have hi' := List.mem_range.1 hi
    have hlt : (r + i) % xs.length < xs.length := Nat.mod_lt _ (by omega)
    rw [List.getD_eq_getElem?_getD, List.getElem?_eq_getElem hlt]
    exact List.getElem_mem hlt
theorem order_eq (xs : List Mail) (r : Nat) (hm : ∀ m ∈ xs, Small m) : sUp xs xs.length = sUp (rot xs r) xs.length := by
  have hz : ∀ j x, Z3[j]? = some x → Best [] j x := fun j x hx => by
    have : x ∈ Z3 := List.mem_of_getElem? hx
    have : x = ⟨0, 0⟩ := by simpa [Z3] using this
    exact ⟨.inl this, fun m hm => by cases hm⟩
  apply List.ext_getElem?
  intro j
  have l1 := sUp_len xs xs.length
  have l2 := sUp_len (rot xs r) xs.length
  by_cases hj : j < 3
  · have h1 : (sUp xs xs.length)[j]? = some _ := List.getElem?_eq_getElem (by omega)
    have h2 : (sUp (rot xs r) xs.length)[j]? = some _ := List.getElem?_eq_getElem (by omega)
    rw [h1, h2]
    congr 1
    unfold sUp at h1 h2
    have b1 := Best.fold _ [] Z3 rfl hz (by rw [List.take_length]; exact hm) j _ h1
    have b2 := Best.fold _ [] Z3 rfl hz (fun m h => hm m ((rot_mem xs r m).2 (List.mem_of_mem_take h))) j _ h2
    refine Best.unique (fun m => ?_) b1 b2
    rw [List.nil_append, List.nil_append, List.take_length, List.take_of_length_le (by rw [rot_len]; exact Nat.le_refl _)]
    exact rot_mem xs r m
  · rw [List.getElem?_eq_none (by omega), List.getElem?_eq_none (by omega)]
end Go.Proofs.Ytkmmiiaadoinpaa.Mar
