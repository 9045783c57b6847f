/- Contract of tried. -/
import Derived.Test.YtgeocadpdpjmjaaOutB
import Derived.StillTailTactics
namespace Go.Proofs.Ytgeocadpdpjmjaa.Out
open Go.RowKit Go.Proofs.Ytgeocadpdpjmjaa.Mem

theorem tried_0 (v p n s now u q : Int) (w : World) (HT : Hid (∀ W, Calls Try.prog 30 #[.int .i64 now] W fun e w' => e = .returned (.int .i64 u) ∧ W = w')) (HL : Hid (∀ W, Calls Try.prog 40 #[.int .i64 u, .int .i64 2] W fun e w' => e = .returned (.int .i64 q) ∧ W = w')) :
    Calls Try.prog 27 #[.agg #[.int .i64 v, .int .i64 p, .int .i64 0, .int .i64 n, .int .i64 s], .int .i64 now] w (Ret (.agg #[.int .i64 v, .int .i64 p, .int .i64 1, .int .i64 q, .int .i64 s]) w) := by
  have hwr : IntKind.i64.wrap 2 = 2 := by rw [IntKind.wrap_i64]; omega
  go_enter Try.func27, Try.ntmps27
  go_wp2_with fail
  refine wp_region_still_tail 9 (by kernel_rfl) (by kernel_rfl) ?_
  simp only [List.take_succ_cons, List.take_zero, List.drop_succ_cons, List.drop_zero]
  change wpStill Try.prog _ (((w.alloc (.cells #[.int .i64 v, .int .i64 p, .int .i64 1, .int .i64 n, .int .i64 s] 35)).alloc (.cells #[.int .i64 0, .int .i64 0, .int .i64 0, .int .i64 0, .int .i64 0] 35)).drew) _ _ _
  still_step
  still_call ((HT.out _).mono fun _ _ h => ⟨h.1, h.2.symm⟩)
  still_step
  still_step
  still_step
  still_step
  still_step
  still_call ((HL.out _).mono fun _ _ h => ⟨h.1, h.2.symm⟩)
  still_step
  refine wpStill_nil ?_
  change wpList Try.prog _ _ _ _ (((w.alloc (.cells #[.int .i64 v, .int .i64 p, .int .i64 1, .int .i64 n, .int .i64 s] 35)).alloc (.cells #[.int .i64 0, .int .i64 0, .int .i64 0, .int .i64 0, .int .i64 0] 35)).drew)
  clear hwr
  go_wp2_with fail
  refine bodyPost_ret (v := .agg #[.int .i64 v, .int .i64 p, .int .i64 1, .int .i64 q, .int .i64 s]) (by simp [results, Try.results27, go_sem]) rfl ⟨rfl, ?_⟩
  exact below_drewN (below_alloc (below_alloc (Below.refl _ _) _) _) 1
theorem tried_1 (v p n s now u q : Int) (w : World) (HT : Hid (∀ W, Calls Try.prog 30 #[.int .i64 now] W fun e w' => e = .returned (.int .i64 u) ∧ W = w')) (HL : Hid (∀ W, Calls Try.prog 40 #[.int .i64 u, .int .i64 4] W fun e w' => e = .returned (.int .i64 q) ∧ W = w')) :
    Calls Try.prog 27 #[.agg #[.int .i64 v, .int .i64 p, .int .i64 1, .int .i64 n, .int .i64 s], .int .i64 now] w (Ret (.agg #[.int .i64 v, .int .i64 p, .int .i64 2, .int .i64 q, .int .i64 s]) w) := by
  have hwr : IntKind.i64.wrap 4 = 4 := by rw [IntKind.wrap_i64]; omega
  go_enter Try.func27, Try.ntmps27
  go_wp2_with fail
  refine wp_region_still_tail 9 (by kernel_rfl) (by kernel_rfl) ?_
  simp only [List.take_succ_cons, List.take_zero, List.drop_succ_cons, List.drop_zero]
  change wpStill Try.prog _ (((w.alloc (.cells #[.int .i64 v, .int .i64 p, .int .i64 2, .int .i64 n, .int .i64 s] 35)).alloc (.cells #[.int .i64 0, .int .i64 0, .int .i64 0, .int .i64 0, .int .i64 0] 35)).drew) _ _ _
  still_step
  still_call ((HT.out _).mono fun _ _ h => ⟨h.1, h.2.symm⟩)
  still_step
  still_step
  still_step
  still_step
  still_step
  still_call ((HL.out _).mono fun _ _ h => ⟨h.1, h.2.symm⟩)
  still_step
  refine wpStill_nil ?_
  change wpList Try.prog _ _ _ _ (((w.alloc (.cells #[.int .i64 v, .int .i64 p, .int .i64 2, .int .i64 n, .int .i64 s] 35)).alloc (.cells #[.int .i64 0, .int .i64 0, .int .i64 0, .int .i64 0, .int .i64 0] 35)).drew)
  clear hwr
  go_wp2_with fail
  refine bodyPost_ret (v := .agg #[.int .i64 v, .int .i64 p, .int .i64 2, .int .i64 q, .int .i64 s]) (by simp [results, Try.results27, go_sem]) rfl ⟨rfl, ?_⟩
  exact below_drewN (below_alloc (below_alloc (Below.refl _ _) _) _) 1
theorem tried_2 (v p n s now u q : Int) (w : World) (HT : Hid (∀ W, Calls Try.prog 30 #[.int .i64 now] W fun e w' => e = .returned (.int .i64 u) ∧ W = w')) (HL : Hid (∀ W, Calls Try.prog 40 #[.int .i64 u, .int .i64 8] W fun e w' => e = .returned (.int .i64 q) ∧ W = w')) :
    Calls Try.prog 27 #[.agg #[.int .i64 v, .int .i64 p, .int .i64 2, .int .i64 n, .int .i64 s], .int .i64 now] w (Ret (.agg #[.int .i64 v, .int .i64 p, .int .i64 3, .int .i64 q, .int .i64 s]) w) := by
  have hwr : IntKind.i64.wrap 8 = 8 := by rw [IntKind.wrap_i64]; omega
  go_enter Try.func27, Try.ntmps27
  go_wp2_with fail
  refine wp_region_still_tail 9 (by kernel_rfl) (by kernel_rfl) ?_
  simp only [List.take_succ_cons, List.take_zero, List.drop_succ_cons, List.drop_zero]
  change wpStill Try.prog _ (((w.alloc (.cells #[.int .i64 v, .int .i64 p, .int .i64 3, .int .i64 n, .int .i64 s] 35)).alloc (.cells #[.int .i64 0, .int .i64 0, .int .i64 0, .int .i64 0, .int .i64 0] 35)).drew) _ _ _
  still_step
  still_call ((HT.out _).mono fun _ _ h => ⟨h.1, h.2.symm⟩)
  still_step
  still_step
  still_step
  still_step
  still_step
  still_call ((HL.out _).mono fun _ _ h => ⟨h.1, h.2.symm⟩)
  still_step
  refine wpStill_nil ?_
  change wpList Try.prog _ _ _ _ (((w.alloc (.cells #[.int .i64 v, .int .i64 p, .int .i64 3, .int .i64 n, .int .i64 s] 35)).alloc (.cells #[.int .i64 0, .int .i64 0, .int .i64 0, .int .i64 0, .int .i64 0] 35)).drew)
  clear hwr
  go_wp2_with fail
  refine bodyPost_ret (v := .agg #[.int .i64 v, .int .i64 p, .int .i64 3, .int .i64 q, .int .i64 s]) (by simp [results, Try.results27, go_sem]) rfl ⟨rfl, ?_⟩
  exact below_drewN (below_alloc (below_alloc (Below.refl _ _) _) _) 1
theorem tried_3 (v p n s now u q : Int) (w : World) (HT : Hid (∀ W, Calls Try.prog 30 #[.int .i64 now] W fun e w' => e = .returned (.int .i64 u) ∧ W = w')) (HL : Hid (∀ W, Calls Try.prog 40 #[.int .i64 u, .int .i64 16] W fun e w' => e = .returned (.int .i64 q) ∧ W = w')) :
    Calls Try.prog 27 #[.agg #[.int .i64 v, .int .i64 p, .int .i64 3, .int .i64 n, .int .i64 s], .int .i64 now] w (Ret (.agg #[.int .i64 v, .int .i64 p, .int .i64 4, .int .i64 q, .int .i64 s]) w) := by
  have hwr : IntKind.i64.wrap 16 = 16 := by rw [IntKind.wrap_i64]; omega
  go_enter Try.func27, Try.ntmps27
  go_wp2_with fail
  refine wp_region_still_tail 9 (by kernel_rfl) (by kernel_rfl) ?_
  simp only [List.take_succ_cons, List.take_zero, List.drop_succ_cons, List.drop_zero]
  change wpStill Try.prog _ (((w.alloc (.cells #[.int .i64 v, .int .i64 p, .int .i64 4, .int .i64 n, .int .i64 s] 35)).alloc (.cells #[.int .i64 0, .int .i64 0, .int .i64 0, .int .i64 0, .int .i64 0] 35)).drew) _ _ _
  still_step
  still_call ((HT.out _).mono fun _ _ h => ⟨h.1, h.2.symm⟩)
  still_step
  still_step
  still_step
  still_step
  still_step
  still_call ((HL.out _).mono fun _ _ h => ⟨h.1, h.2.symm⟩)
  still_step
  refine wpStill_nil ?_
  change wpList Try.prog _ _ _ _ (((w.alloc (.cells #[.int .i64 v, .int .i64 p, .int .i64 4, .int .i64 n, .int .i64 s] 35)).alloc (.cells #[.int .i64 0, .int .i64 0, .int .i64 0, .int .i64 0, .int .i64 0] 35)).drew)
  clear hwr
  go_wp2_with fail
  refine bodyPost_ret (v := .agg #[.int .i64 v, .int .i64 p, .int .i64 4, .int .i64 q, .int .i64 s]) (by simp [results, Try.results27, go_sem]) rfl ⟨rfl, ?_⟩
  exact below_drewN (below_alloc (below_alloc (Below.refl _ _) _) _) 1
theorem tried_4 (v p n s now u q : Int) (w : World) (HT : Hid (∀ W, Calls Try.prog 30 #[.int .i64 now] W fun e w' => e = .returned (.int .i64 u) ∧ W = w')) (HL : Hid (∀ W, Calls Try.prog 40 #[.int .i64 u, .int .i64 32] W fun e w' => e = .returned (.int .i64 q) ∧ W = w')) :
    Calls Try.prog 27 #[.agg #[.int .i64 v, .int .i64 p, .int .i64 4, .int .i64 n, .int .i64 s], .int .i64 now] w (Ret (.agg #[.int .i64 v, .int .i64 p, .int .i64 5, .int .i64 q, .int .i64 s]) w) := by
  have hwr : IntKind.i64.wrap 32 = 32 := by rw [IntKind.wrap_i64]; omega
  go_enter Try.func27, Try.ntmps27
  go_wp2_with fail
  refine wp_region_still_tail 9 (by kernel_rfl) (by kernel_rfl) ?_
  simp only [List.take_succ_cons, List.take_zero, List.drop_succ_cons, List.drop_zero]
  change wpStill Try.prog _ (((w.alloc (.cells #[.int .i64 v, .int .i64 p, .int .i64 5, .int .i64 n, .int .i64 s] 35)).alloc (.cells #[.int .i64 0, .int .i64 0, .int .i64 0, .int .i64 0, .int .i64 0] 35)).drew) _ _ _
  still_step
  still_call ((HT.out _).mono fun _ _ h => ⟨h.1, h.2.symm⟩)
  still_step
  still_step
  still_step
  still_step
  still_step
  still_call ((HL.out _).mono fun _ _ h => ⟨h.1, h.2.symm⟩)
  still_step
  refine wpStill_nil ?_
  change wpList Try.prog _ _ _ _ (((w.alloc (.cells #[.int .i64 v, .int .i64 p, .int .i64 5, .int .i64 n, .int .i64 s] 35)).alloc (.cells #[.int .i64 0, .int .i64 0, .int .i64 0, .int .i64 0, .int .i64 0] 35)).drew)
  clear hwr
  go_wp2_with fail
  refine bodyPost_ret (v := .agg #[.int .i64 v, .int .i64 p, .int .i64 5, .int .i64 q, .int .i64 s]) (by simp [results, Try.results27, go_sem]) rfl ⟨rfl, ?_⟩
  exact below_drewN (below_alloc (below_alloc (Below.refl _ _) _) _) 1
theorem tried_live (x : Outs) (now : Int) (w : World) (h0 : 0 ≤ x.t) (h4 : x.t ≤ 4) : Calls Try.prog 27 #[x.val, .int .i64 now] w (Ret (sendO x now).val w) := by
  obtain ⟨v, p, t, n, s⟩ := x
  have h0' : 0 ≤ t := h0
  have h4' : t ≤ 4 := h4
  have hc : t = 0 ∨ t = 1 ∨ t = 2 ∨ t = 3 ∨ t = 4 := by omega
  rcases hc with rfl | rfl | rfl | rfl | rfl
  · exact tried_0 v p n s now _ _ w (fun W => tick_any now W) (fun W => later_any _ 2 W)
  · exact tried_1 v p n s now _ _ w (fun W => tick_any now W) (fun W => later_any _ 4 W)
  · exact tried_2 v p n s now _ _ w (fun W => tick_any now W) (fun W => later_any _ 8 W)
  · exact tried_3 v p n s now _ _ w (fun W => tick_any now W) (fun W => later_any _ 16 W)
  · exact tried_4 v p n s now _ _ w (fun W => tick_any now W) (fun W => later_any _ 32 W)
theorem tried_any (x : Outs) (now : Int) (w : World) (h0 : 0 ≤ x.t) : Calls Try.prog 27 #[x.val, .int .i64 now] w (Ret (sendO x now).val w) := by
  by_cases h : 5 ≤ x.t
  · exact tried_dead x now w h
  · exact tried_live x now w h0 (by omega)
end Go.Proofs.Ytgeocadpdpjmjaa.Out
