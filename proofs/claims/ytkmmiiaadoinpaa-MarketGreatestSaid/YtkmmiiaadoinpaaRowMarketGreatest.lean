/- MarketGreatest returns true at every input. No condition. -/
import Derived.Test.YtkmmiiaadoinpaaRows
import Derived.Test.YtkmmiiaadoinpaaMarQ
import Derived.Test.YtkmmiiaadoinpaaOpen
namespace Go.Proofs.Ytkmmiiaadoinpaa.marketGreatest
open Go.ChangeShapes Go.WideShapes Go.ChangeAt Go.RowKit Go.Proofs.Ytkmmiiaadoinpaa.Mem
set_option linter.unusedVariables false
theorem own : ownKnob Try.prog.godebug = none := by kernel_rfl
theorem laidOut : laidOutB Try.prog = true := by kernel_rfl
theorem cells26 : Try.prog.cellsOf 26 = 3 := by kernel_rfl
theorem cells44 : Try.prog.cellsOf 44 = 2 := by kernel_rfl
theorem cells48 : Try.prog.cellsOf 48 = 3 := by kernel_rfl
theorem cells3 : Try.prog.cellsOf 3 = 1 := by kernel_rfl
set_option maxRecDepth 100000 in
theorem lifted (os : Os) (started : os.Started) (H : Type) (enc : TypeId × Value → H) :
    ReturnsInHanded {} Try.checked os 5 .any (Rows.marketGreatestSpec.pre6 enc Try.prog Try.f5 Rows.marketGreatestRow.domain false) (Rows.marketGreatestSpec.post enc Try.prog Try.f5 false true false false) := by
  refine returnsInHanded_of_change_sized (C := Try.checked) own started (by kernel_rfl) Try.func5
    (ChangeSpec.witness6 (enc := enc) (C := Try.checked) false ⟨#[], #[.slice none 0 0, .slice none 0 0], []⟩ 8 (by kernel_rfl) (by kernel_rfl) (by kernel_rfl) (by kernel_rfl)) ?_
  intro W base args ds gs before hval0 hW hcnd hsz0 _
  have hval : ∀ (j : Nat) t v, Try.f5.params[j]? = some t → args[j]? = some v → Value.okWide Try.prog W .any base t v := hval0
  have hW' := hW
  obtain ⟨p, q, hA0, hV, rfl, hfz, hnd⟩ := hW
  have hA : DataW.TrodAll enc Try.prog W 0 (fun _ => true) true Try.f5.params.toList args.toList ds p := hA0
  rw [Try.params5] at hA hval
  obtain ⟨v0, vs0, d0, ds0, p0, q0, hargs, rfl, rfl, h0, r0⟩ := trodAll_cons hA
  obtain ⟨v1, vs1, d1, ds1, p1, q1, rfl, rfl, rfl, h1, r1⟩ := trodAll_cons r0
  obtain ⟨rfl, rfl, rfl⟩ := trodAll_nil r1
  obtain rfl : args = #[v0, v1] := by cases args; simp_all
  obtain ⟨rfl, rfl⟩ := trodVars_none hV
  have k0 := h0
  have k1 := h1
  obtain ⟨A0, c0, xs0, rfl, at0, g0⟩ := open_En Mar.dM Mar.R64 Try.underlying22 cells48 (fun n cs y hy => by
      obtain ⟨hl, hg⟩ := encArr Try.underlying48 cells48 Try.underlying3 cells3 hy
      match cs, hl with
      | [u, v, x], _ =>
        obtain ⟨a, rfl, wa⟩ := hg 0 u rfl
        obtain ⟨b, rfl, wb⟩ := hg 1 v rfl
        obtain ⟨c, rfl, wc⟩ := hg 2 x rfl
        exact ⟨⟨a, b, c⟩, rfl, wfB wa, wfB wb, wfB wc⟩) (hval 0 22 v0 rfl rfl) h0
  obtain ⟨A1, c1, xs1, rfl, at1, g1⟩ := open_En Mar.dI Mar.I64 Try.underlying35 cells3 (fun n cs y hy => by
      obtain ⟨a, rfl, _, wa⟩ := DataW.trod_int Try.underlying3 hy
      exact ⟨a, rfl, wfB wa⟩) (hval 1 35 v1 rfl rfl) h1
  refine (Mar.great_any A0 c0 xs0 A1 c1 xs1 W at0 g0 at1 g1).mono fun e W' ⟨he, bel⟩ => ?_
  subst he
  exact ⟨_, rfl, _, _, _, [], _, [], hW', trodAll_mk1 (shut_bool Try.underlying4 _), (trodAll_cons_mk (Below.trod laidOut (by kernel_rfl) (of_decide_eq_true (by kernel_rfl)) k0 bel (fun x hx => by simpa using hW'.lt x (by simp_all))) (trodAll_cons_mk (Below.trod laidOut (by kernel_rfl) (of_decide_eq_true (by kernel_rfl)) k1 bel (fun x hx => by simpa using hW'.lt x (by simp_all))) trodAll_mk0)), rfl, bel.frame _, fun h => by cases h⟩
theorem over : Rows.marketGreatestRow.holds Try.pinned (OpenSpec.ofChange Rows.marketGreatestSpec) :=
  OpenClaim.holds_of_wide 5 Try.f5 rfl rfl rfl rfl rfl rfl rfl ⟨rfl, rfl, rfl, rfl, rfl⟩ rfl rfl rfl rfl rfl (by kernel_rfl) Try.func5 (by kernel_rfl)
    (of_decide_eq_true (by kernel_rfl)) (by unfold Func.isWrapper; first | (rw [if_pos (by decide +kernel)]; kernel_rfl) | (rw [if_neg (by decide +kernel)]; exact ⟨rfl, rfl⟩))
    (fun os started H enc _ => lifted os started H enc)
theorem proved : Rows.MarketGreatestSaid := over
#print axioms proved
end Go.Proofs.Ytkmmiiaadoinpaa.marketGreatest
namespace Go.Proofs.Ytkmmiiaadoinpaa
/-- The row, under a short name, for the claim. -/
theorem marketGreatest_holds : Rows.MarketGreatestSaid := marketGreatest.proved
end Go.Proofs.Ytkmmiiaadoinpaa
