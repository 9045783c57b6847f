/- Contracts of the outbox's function literals. -/
import Derived.Test.YtgeocadpdpjmjaaOutA
namespace Go.Proofs.Ytgeocadpdpjmjaa.Out
open Go.RowKit Go.Proofs.Ytgeocadpdpjmjaa.Mem

def dueB (x : Outs) (now : Int) : Bool := decide (x.s = 1 ∧ x.n ≤ tickI now)
def waitI (t : Int) : Int := if t = 0 then 2 else if t = 1 then 4 else if t = 2 then 8 else if t = 3 then 16 else 32
def intendO (x : Outs) (p now : Int) : Outs := ⟨x.v + 1, p, 0, tickI now, 1⟩
def sendO (x : Outs) (now : Int) : Outs := if 5 ≤ x.t then ⟨x.v, x.p, x.t, x.n, 3⟩ else ⟨x.v, x.p, x.t + 1, laterI (tickI now) (waitI x.t), x.s⟩
def stateO (x : Outs) (s : Int) : Outs := ⟨x.v, x.p, x.t, x.n, s⟩
def reviveO (x : Outs) (now : Int) : Outs := ⟨x.v, x.p, 0, tickI now, 1⟩
def Ret (v : Value) (w : World) (e : Ending) (w' : World) : Prop := e = .returned v ∧ Below w.heap.size w w'

theorem due_yes (x : Outs) (now : Int) (w : World) (hs : x.s = 1) (hn : x.n ≤ tickI now) : Calls Try.prog 23 #[x.val, .int .i64 now] w (Ret (.bool true) w) := by
  obtain ⟨v, p, t, n, s⟩ := x
  obtain rfl : s = 1 := hs
  have hn' : n ≤ tickI now := hn
  clear hn
  have ht := tickI_bd now
  have HT := Lib.hid (fun W => tick_any now W)
  generalize tickI now = u at HT hn' ht
  show Calls Try.prog 23 #[.agg #[.int .i64 v, .int .i64 p, .int .i64 t, .int .i64 n, .int .i64 1], .int .i64 now] w _
  go_enter Try.func23, Try.ntmps23
  go_wp2_with fail
  go_quiet ((go_at_call 30; exact Calls.quiet_of_same ((HT.out _).mono fun _ _ ⟨h, k⟩ => ⟨h, k.symm⟩)))
  go_wp2
  go_ret
  exact ⟨rfl, below_drewN (below_alloc (Below.refl _ _) _) _⟩
theorem due_late (x : Outs) (now : Int) (w : World) (hs : x.s = 1) (hn : ¬ x.n ≤ tickI now) : Calls Try.prog 23 #[x.val, .int .i64 now] w (Ret (.bool false) w) := by
  obtain ⟨v, p, t, n, s⟩ := x
  obtain rfl : s = 1 := hs
  have hn' : ¬ n ≤ tickI now := hn
  clear hn
  have ht := tickI_bd now
  have HT := Lib.hid (fun W => tick_any now W)
  generalize tickI now = u at HT hn' ht
  have g1 : decide (n ≤ u) = false := decide_eq_false hn'
  show Calls Try.prog 23 #[.agg #[.int .i64 v, .int .i64 p, .int .i64 t, .int .i64 n, .int .i64 1], .int .i64 now] w _
  go_enter Try.func23, Try.ntmps23
  go_wp2_with fail
  go_quiet ((go_at_call 30; exact Calls.quiet_of_same ((HT.out _).mono fun _ _ ⟨h, k⟩ => ⟨h, k.symm⟩)))
  go_wp2
  go_ret
  exact ⟨rfl, below_drewN (below_alloc (Below.refl _ _) _) _⟩
theorem due_not (x : Outs) (now : Int) (w : World) (hs : ¬ x.s = 1) : Calls Try.prog 23 #[x.val, .int .i64 now] w (Ret (.bool false) w) := by
  obtain ⟨v, p, t, n, s⟩ := x
  have hs' : ¬ s = 1 := hs
  have g1 : (s == 1) = false := by simpa using hs'
  clear hs hs'
  show Calls Try.prog 23 #[.agg #[.int .i64 v, .int .i64 p, .int .i64 t, .int .i64 n, .int .i64 s], .int .i64 now] w _
  go_enter Try.func23, Try.ntmps23
  go_wp2_with fail
  go_quiet (fail)
  go_wp2
  go_ret
  exact ⟨rfl, below_drewN (below_alloc (Below.refl _ _) _) _⟩
theorem due_any (x : Outs) (now : Int) (w : World) : Calls Try.prog 23 #[x.val, .int .i64 now] w (Ret (.bool (dueB x now)) w) := by
  unfold dueB
  by_cases hs : x.s = 1
  · by_cases hn : x.n ≤ tickI now
    · rw [decide_eq_true ⟨hs, hn⟩]; exact due_yes x now w hs hn
    · rw [decide_eq_false (fun h => hn h.2)]; exact due_late x now w hs hn
  · rw [decide_eq_false (fun h => hs h.1)]; exact due_not x now w hs

theorem tried_dead (x : Outs) (now : Int) (w : World) (ht : 5 ≤ x.t) : Calls Try.prog 27 #[x.val, .int .i64 now] w (Ret (sendO x now).val w) := by
  obtain ⟨v, p, t, n, s⟩ := x
  have ht' : 5 ≤ t := ht
  clear ht
  have e : (sendO ⟨v, p, t, n, s⟩ now).val = .agg #[.int .i64 v, .int .i64 p, .int .i64 t, .int .i64 n, .int .i64 3] := by unfold sendO; rw [if_pos ht']; rfl
  rw [e]
  clear e
  show Calls Try.prog 27 #[.agg #[.int .i64 v, .int .i64 p, .int .i64 t, .int .i64 n, .int .i64 s], .int .i64 now] w _
  go_enter Try.func27, Try.ntmps27
  go_wp2_with fail
  refine bodyPost_ret (v := .agg #[.int .i64 v, .int .i64 p, .int .i64 t, .int .i64 n, .int .i64 3]) (by simp [results, Try.results27, go_sem]) rfl ⟨rfl, ?_⟩
  exact below_alloc (below_alloc (Below.refl _ _) _) _
end Go.Proofs.Ytgeocadpdpjmjaa.Out
