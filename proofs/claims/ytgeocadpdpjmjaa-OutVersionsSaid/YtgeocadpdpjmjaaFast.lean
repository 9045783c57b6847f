/- The order of a large quiet region, checked step by step. -/
import Derived.Deep.QuietTactic
namespace Go.Proofs.Ytgeocadpdpjmjaa.Fast
open Go

def litB (a b : Nat) : Array Bool := (List.replicate a true ++ List.replicate b false).toArray
theorem litB_zero (n : Nat) : litB 0 n = Array.replicate n false := by simp [litB]
theorem litB_step (a b : Nat) : (litB a (b + 1)).setIfInBounds a true = litB (a + 1) b := by
  unfold litB
  apply Array.ext'
  simp only [Array.toList_setIfInBounds]
  rw [List.set_append_right _ _ (by simp)]
  simp only [List.length_replicate, Nat.sub_self]
  rw [List.replicate_succ (n := b), List.set_cons_zero, List.replicate_succ' (n := a), List.append_assoc]
  rfl
def stepOK (ops : Array Oper) (n k : Nat) : Bool := (Region.ready .any ops (litB k (n - k))).contains k && Region.free .any ops (litB k (n - k)) k
theorem lexFrom_fast {ops : Array Oper} (n : Nat) (h1 : ∀ k, k < n → stepOK ops n k = true) (h2 : (Region.ready .any ops (litB n 0)).isEmpty = true) :
    ∀ (f k : Nat), k + f = n → Region.lexFrom .any ops f k (litB k f) = true
  | 0, k, h => by
    obtain rfl : k = n := h
    exact h2
  | f + 1, k, h => by
    have hs := h1 k (by omega)
    have ef : n - k = f + 1 := by omega
    unfold stepOK at hs
    rw [ef] at hs
    simp only [Region.lexFrom, litB_step]
    rw [hs, Bool.true_and]
    exact lexFrom_fast n h1 h2 f (k + 1) (by omega)
theorem lexB_fast {ops : Array Oper} (n : Nat) (hn : ops.size = n) (h0 : Region.noSelect ops = true) (h1 : ∀ k, k < n → stepOK ops n k = true) (h2 : (Region.ready .any ops (litB n 0)).isEmpty = true) : Region.lexB .any ops = true := by
  unfold Region.lexB
  rw [hn, ← litB_zero, h0, Bool.true_and]
  exact lexFrom_fast n h1 h2 n 0 (by omega)
theorem all_chunk (f : Nat → Bool) (a g : Nat) (h : (List.range g).all (fun i => f (a + i)) = true) (k : Nat) (h1 : a ≤ k) (h2 : k < a + g) : f k = true := by
  have := List.all_eq_true.1 h (k - a) (List.mem_range.2 (by omega))
  have e : a + (k - a) = k := by omega
  rwa [e] at this
end Go.Proofs.Ytgeocadpdpjmjaa.Fast
