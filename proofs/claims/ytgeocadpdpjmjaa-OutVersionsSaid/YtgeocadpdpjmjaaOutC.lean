/- Contracts of the outbox's closures. -/
import Derived.Test.YtgeocadpdpjmjaaOutB2
namespace Go.Proofs.Ytgeocadpdpjmjaa.Out
open Go.RowKit Go.Proofs.Ytgeocadpdpjmjaa.Mem

def At1 (w : World) (B : Nat) (n : Int) : Prop := w.cell? ⟨B, 0, none⟩ = some (.int .i64 n)
theorem At1.below {w w' : World} {B : Nat} {n : Int} (h : At1 w B n) (hb : Below w.heap.size w w') : At1 w' B n := below_cell hb h
theorem At1.lt {w : World} {B : Nat} {n : Int} (h : At1 w B n) : B < w.heap.size := World.block_lt_of_cell? w _ h

theorem in1_yes (x : Outs) (p : Int) (B : Nat) (w : World) (h : At1 w B p) (h1 : 1 ≤ p) (h2 : p ≤ 1000000000000) : Calls Try.prog 28 #[x.val, .pointer (some ⟨B, 0, none⟩)] w (Ret (.bool true) w) := by
  obtain ⟨v, p', t, n, s⟩ := x
  have hlt := h.lt
  have hne : B ≠ w.heap.size := by omega
  have hc : w.cell? ⟨B, 0, none⟩ = some (.int .i64 p) := h
  clear h
  show Calls Try.prog 28 #[.agg #[.int .i64 v, .int .i64 p', .int .i64 t, .int .i64 n, .int .i64 s], _] w _
  go_enter Try.func28, Try.ntmps28
  go_wp2
  go_ret
  exact ⟨rfl, below_alloc (Below.refl _ _) _⟩
theorem in2_any (x : Outs) (p now : Int) (B C : Nat) (w : World) (h : At1 w B p) (h' : At1 w C now) (h1 : 0 ≤ x.v) (h2 : x.v ≤ 1000000) : Calls Try.prog 29 #[x.val, .pointer (some ⟨B, 0, none⟩), .pointer (some ⟨C, 0, none⟩)] w (Ret (intendO x p now).val w) := by
  obtain ⟨v, p', t, n, s⟩ := x
  have h1' : 0 ≤ v := h1
  have h2' : v ≤ 1000000 := h2
  have hlt := h.lt
  have hlt' := h'.lt
  have hne : B ≠ w.heap.size := by omega
  have hne2 : B ≠ w.heap.size + 1 := by omega
  have hne3 : C ≠ w.heap.size := by omega
  have hne4 : C ≠ w.heap.size + 1 := by omega
  have hc : w.cell? ⟨B, 0, none⟩ = some (.int .i64 p) := h
  have hc' : w.cell? ⟨C, 0, none⟩ = some (.int .i64 now) := h'
  clear h h' h1 h2
  have hwr : IntKind.i64.wrap (v + 1) = v + 1 := IntWalk.i64_in _ (by omega)
  have HT := Lib.hid (fun W => tick_any now W)
  show Calls Try.prog 29 #[.agg #[.int .i64 v, .int .i64 p', .int .i64 t, .int .i64 n, .int .i64 s], _, _] w (Ret (.agg #[.int .i64 (v + 1), .int .i64 p, .int .i64 0, .int .i64 (tickI now), .int .i64 1]) w)
  generalize tickI now = u at HT
  go_enter Try.func29, Try.ntmps29
  go_wp2_with fail
  refine wp_region_still_tail 7 (by kernel_rfl) (by kernel_rfl) ?_
  simp only [List.take_succ_cons, List.take_zero, List.drop_succ_cons, List.drop_zero]
  change wpStill Try.prog _ (((w.alloc (.cells #[.int .i64 v, .int .i64 p', .int .i64 t, .int .i64 n, .int .i64 s] 35)).alloc (.cells #[.int .i64 0, .int .i64 0, .int .i64 0, .int .i64 0, .int .i64 0] 35)).drew) _ _ _
  still_step
  still_step
  still_step
  still_step
  still_step
  still_call ((HT.out _).mono fun _ _ h => ⟨h.1, h.2.symm⟩)
  still_step
  refine wpStill_nil ?_
  change wpList Try.prog _ _ _ _ (((w.alloc (.cells #[.int .i64 v, .int .i64 p', .int .i64 t, .int .i64 n, .int .i64 s] 35)).alloc (.cells #[.int .i64 0, .int .i64 0, .int .i64 0, .int .i64 0, .int .i64 0] 35)).drew)
  clear hwr
  go_wp2_with fail
  refine bodyPost_ret (v := .agg #[.int .i64 (v + 1), .int .i64 p, .int .i64 0, .int .i64 u, .int .i64 1]) (by simp [results, Try.results29, go_sem]) rfl ⟨rfl, ?_⟩
  exact below_drewN (below_alloc (below_alloc (Below.refl _ _) _) _) 1
theorem send1_any (x : Outs) (now : Int) (B : Nat) (w : World) (h : At1 w B now) (b : Bool) (hb : dueB x now = b) : Calls Try.prog 25 #[x.val, .pointer (some ⟨B, 0, none⟩)] w (Ret (.bool b) w) := by
  have HD := Lib.hid (fun W => due_any x now W)
  rw [hb] at HD
  obtain ⟨v, p', t, n, s⟩ := x
  have hlt := h.lt
  have hne : B ≠ w.heap.size := by omega
  have hc : w.cell? ⟨B, 0, none⟩ = some (.int .i64 now) := h
  clear h hb
  have HD2 : Hid (∀ W, Calls Try.prog 23 #[.agg #[.int .i64 v, .int .i64 p', .int .i64 t, .int .i64 n, .int .i64 s], .int .i64 now] W (Ret (.bool b) W)) := HD
  clear HD
  show Calls Try.prog 25 #[.agg #[.int .i64 v, .int .i64 p', .int .i64 t, .int .i64 n, .int .i64 s], _] w _
  go_enter Try.func25, Try.ntmps25
  go_wp2_with (go_at_call 23; refine (HD2.out _).mono ?_; rintro e w1 ⟨rfl, hbel⟩; have HB := Lib.hid hbel; clear hbel)
  go_ret
  exact ⟨rfl, below_step (below_alloc (Below.refl _ _) _) HB.out⟩
theorem send2_any (x : Outs) (now : Int) (B : Nat) (w : World) (h : At1 w B now) (h0 : 0 ≤ x.t) (y : Outs) (hy : sendO x now = y) : Calls Try.prog 26 #[x.val, .pointer (some ⟨B, 0, none⟩)] w (Ret y.val w) := by
  have HD := Lib.hid (fun W => tried_any x now W h0)
  rw [hy] at HD
  obtain ⟨v, p', t, n, s⟩ := x
  obtain ⟨v2, p2, t2, n2, s2⟩ := y
  have hlt := h.lt
  have hne : B ≠ w.heap.size := by omega
  have hne2 : B ≠ w.heap.size + 1 := by omega
  have hc : w.cell? ⟨B, 0, none⟩ = some (.int .i64 now) := h
  clear h hy h0
  have HD2 : Hid (∀ W, Calls Try.prog 27 #[.agg #[.int .i64 v, .int .i64 p', .int .i64 t, .int .i64 n, .int .i64 s], .int .i64 now] W (Ret (.agg #[.int .i64 v2, .int .i64 p2, .int .i64 t2, .int .i64 n2, .int .i64 s2]) W)) := HD
  clear HD
  show Calls Try.prog 26 #[.agg #[.int .i64 v, .int .i64 p', .int .i64 t, .int .i64 n, .int .i64 s], _] w (Ret (.agg #[.int .i64 v2, .int .i64 p2, .int .i64 t2, .int .i64 n2, .int .i64 s2]) w)
  go_enter Try.func26, Try.ntmps26
  go_wp2_with (go_at_call 27; refine (HD2.out _).mono ?_; rintro e w1 ⟨rfl, hbel⟩; obtain ⟨hc1, hf1, hz1⟩ := olds hbel; have HB := Lib.hid hbel; clear hbel)
  refine bodyPost_ret (v := .agg #[.int .i64 v2, .int .i64 p2, .int .i64 t2, .int .i64 n2, .int .i64 s2]) (by simp [results, Try.results26, go_sem, hc1]) rfl ⟨rfl, ?_⟩
  exact below_set (below_set (below_set (below_set (below_set (below_step (below_alloc (below_alloc (Below.refl _ _) _) _) HB.out) (by simp) _) (by simp) _) (by simp) _) (by simp) _) (by simp) _
theorem rev1_any (x : Outs) (w : World) (b : Bool) (hb : decide (x.s = 3) = b) : Calls Try.prog 31 #[x.val] w (Ret (.bool b) w) := by
  obtain ⟨v, p', t, n, s⟩ := x
  have hb' : decide (s = 3) = b := hb
  have hb2 : (s == 3) = b := hb'
  clear hb hb'
  show Calls Try.prog 31 #[.agg #[.int .i64 v, .int .i64 p', .int .i64 t, .int .i64 n, .int .i64 s]] w _
  go_enter Try.func31, Try.ntmps31
  go_wp2
  go_ret
  exact ⟨rfl, below_alloc (Below.refl _ _) _⟩
theorem rev2_any (x : Outs) (now : Int) (B : Nat) (w : World) (h : At1 w B now) : Calls Try.prog 32 #[x.val, .pointer (some ⟨B, 0, none⟩)] w (Ret (reviveO x now).val w) := by
  obtain ⟨v, p', t, n, s⟩ := x
  have hlt := h.lt
  have hne : B ≠ w.heap.size := by omega
  have hne2 : B ≠ w.heap.size + 1 := by omega
  have hc : w.cell? ⟨B, 0, none⟩ = some (.int .i64 now) := h
  clear h
  have HT := Lib.hid (fun W => tick_any now W)
  show Calls Try.prog 32 #[.agg #[.int .i64 v, .int .i64 p', .int .i64 t, .int .i64 n, .int .i64 s], _] w (Ret (.agg #[.int .i64 v, .int .i64 p', .int .i64 0, .int .i64 (tickI now), .int .i64 1]) w)
  generalize tickI now = u at HT
  go_enter Try.func32, Try.ntmps32
  go_wp2_with (go_at_call 30; refine (HT.out _).mono ?_; rintro e w' ⟨rfl, rfl⟩)
  refine bodyPost_ret (v := .agg #[.int .i64 v, .int .i64 p', .int .i64 0, .int .i64 u, .int .i64 1]) (by simp [results, Try.results32, go_sem]) rfl ⟨rfl, ?_⟩
  exact below_alloc (below_alloc (Below.refl _ _) _) _
theorem state1_any (x : Outs) (k : Int) (B : Nat) (w : World) (h : At1 w B k) : Calls Try.prog 42 #[x.val, .pointer (some ⟨B, 0, none⟩)] w (Ret (stateO x k).val w) := by
  obtain ⟨v, p', t, n, s⟩ := x
  have hlt := h.lt
  have hne : B ≠ w.heap.size := by omega
  have hne2 : B ≠ w.heap.size + 1 := by omega
  have hc : w.cell? ⟨B, 0, none⟩ = some (.int .i64 k) := h
  clear h
  show Calls Try.prog 42 #[.agg #[.int .i64 v, .int .i64 p', .int .i64 t, .int .i64 n, .int .i64 s], _] w (Ret (.agg #[.int .i64 v, .int .i64 p', .int .i64 t, .int .i64 n, .int .i64 k]) w)
  go_enter Try.func42, Try.ntmps42
  go_wp2
  refine bodyPost_ret (v := .agg #[.int .i64 v, .int .i64 p', .int .i64 t, .int .i64 n, .int .i64 k]) (by simp [results, Try.results42, go_sem]) rfl ⟨rfl, ?_⟩
  exact below_alloc (below_alloc (Below.refl _ _) _) _
def ackB (x : Outs) (ver : Int) : Bool := decide (x.v = ver ∧ (x.s = 1 ∨ x.s = 3))
def rejB (x : Outs) (ver : Int) : Bool := decide (x.v = ver ∧ x.s = 1)
theorem ack1_any (x : Outs) (ver : Int) (B : Nat) (w : World) (h : At1 w B ver) (b : Bool) (hb : ackB x ver = b) : Calls Try.prog 33 #[x.val, .pointer (some ⟨B, 0, none⟩)] w (Ret (.bool b) w) := by
  obtain ⟨v, p', t, n, s⟩ := x
  have hlt := h.lt
  have hne : B ≠ w.heap.size := by omega
  have hc : w.cell? ⟨B, 0, none⟩ = some (.int .i64 ver) := h
  have hb' : decide (v = ver ∧ (s = 1 ∨ s = 3)) = b := hb
  clear h hb
  show Calls Try.prog 33 #[.agg #[.int .i64 v, .int .i64 p', .int .i64 t, .int .i64 n, .int .i64 s], _] w _
  by_cases hv : v = ver
  · subst hv
    by_cases h1 : s = 1
    · subst h1
      have e : b = true := by rw [← hb']; simp
      subst e
      clear hb'
      go_enter Try.func33, Try.ntmps33
      go_wp2
      go_ret
      exact ⟨rfl, below_alloc (Below.refl _ _) _⟩
    · have g1 : (s == 1) = false := by simpa using h1
      have e : (s == 3) = b := by rw [← hb']; by_cases h3 : s = 3 <;> simp [h1, h3]
      clear hb' h1
      go_enter Try.func33, Try.ntmps33
      go_wp2
      go_ret
      exact ⟨rfl, below_alloc (Below.refl _ _) _⟩
  · have g1 : (v == ver) = false := by simpa using hv
    have e : b = false := by rw [← hb']; simp [hv]
    subst e
    clear hb' hv
    go_enter Try.func33, Try.ntmps33
    go_wp2
    go_ret
    exact ⟨rfl, below_alloc (Below.refl _ _) _⟩
theorem rej1_any (x : Outs) (ver : Int) (B : Nat) (w : World) (h : At1 w B ver) (b : Bool) (hb : rejB x ver = b) : Calls Try.prog 35 #[x.val, .pointer (some ⟨B, 0, none⟩)] w (Ret (.bool b) w) := by
  obtain ⟨v, p', t, n, s⟩ := x
  have hlt := h.lt
  have hne : B ≠ w.heap.size := by omega
  have hc : w.cell? ⟨B, 0, none⟩ = some (.int .i64 ver) := h
  have hb' : decide (v = ver ∧ s = 1) = b := hb
  clear h hb
  show Calls Try.prog 35 #[.agg #[.int .i64 v, .int .i64 p', .int .i64 t, .int .i64 n, .int .i64 s], _] w _
  by_cases hv : v = ver
  · subst hv
    have e : (s == 1) = b := by rw [← hb']; by_cases h1 : s = 1 <;> simp [h1]
    clear hb'
    go_enter Try.func35, Try.ntmps35
    go_wp2
    go_ret
    exact ⟨rfl, below_alloc (Below.refl _ _) _⟩
  · have g1 : (v == ver) = false := by simpa using hv
    have e : b = false := by rw [← hb']; simp [hv]
    subst e
    clear hb' hv
    go_enter Try.func35, Try.ntmps35
    go_wp2
    go_ret
    exact ⟨rfl, below_alloc (Below.refl _ _) _⟩
theorem state_any (k : Int) (w : World) : Calls Try.prog 34 #[.int .i64 k] w fun e w' => e = .returned (.func (.func 42) #[] #[.pointer (some ⟨w.heap.size, 0, none⟩)]) ∧ w' = w.alloc (.cells #[.int .i64 k] 3) := by
  go_enter Try.func34, Try.ntmps34
  go_wp2
  go_ret
  exact ⟨rfl, rfl⟩
end Go.Proofs.Ytgeocadpdpjmjaa.Out
