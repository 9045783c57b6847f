/- MarketTells returns true at every input. No condition. -/
import Derived.Test.YtkmmiiaadoinpaaRows
import Derived.Test.YtkmmiiaadoinpaaMarR
import Derived.Test.YtkmmiiaadoinpaaOpen2
namespace Go.Proofs.Ytkmmiiaadoinpaa.marketTells
open Go.ChangeShapes Go.WideShapes Go.ChangeAt Go.RowKit Go.Proofs.Ytkmmiiaadoinpaa.Mem
set_option linter.unusedVariables false
theorem own : ownKnob Try.prog.godebug = none := by kernel_rfl
theorem laidOut : laidOutB Try.prog = true := by kernel_rfl
theorem cells3 : Try.prog.cellsOf 3 = 1 := by kernel_rfl
theorem cells26 : Try.prog.cellsOf 26 = 3 := by kernel_rfl
theorem cells44 : Try.prog.cellsOf 44 = 2 := by kernel_rfl
theorem cells48 : Try.prog.cellsOf 48 = 3 := by kernel_rfl
set_option maxRecDepth 100000 in
theorem lifted (os : Os) (started : os.Started) (H : Type) (enc : TypeId × Value → H) :
    ReturnsInHanded {} Try.checked os 3 .any (Rows.marketTellsSpec.pre6 enc Try.prog Try.f3 Rows.marketTellsRow.domain false) (Rows.marketTellsSpec.post enc Try.prog Try.f3 false true false false) := by
  refine returnsInHanded_of_change_sized (C := Try.checked) own started (by kernel_rfl) Try.func3
    (ChangeSpec.witness6 (enc := enc) (C := Try.checked) false ⟨#[], #[.slice none 0 0, .slice none 0 0, .slice none 0 0, .agg #[.int .i64 0, .int .i64 0, .int .i64 0], .int .i64 0], []⟩ 8 (by kernel_rfl) (by kernel_rfl) (by kernel_rfl) (by kernel_rfl)) ?_
  intro W base args ds gs before hval0 hW hcnd hsz0 _
  have hsz : (DataW.weightsEach Try.prog (Try.f3.params.toList ++ Rows.marketTellsSpec.plain.varTypes Try.prog) (ds ++ gs)).all (· ≤ reachBytes) = true := hsz0
  have hval : ∀ (j : Nat) t v, Try.f3.params[j]? = some t → args[j]? = some v → Value.okWide Try.prog W .any base t v := hval0
  have hW' := hW
  obtain ⟨p, q, hA0, hV, rfl, hfz, hnd⟩ := hW
  have hA : DataW.TrodAll enc Try.prog W 0 (fun _ => true) true Try.f3.params.toList args.toList ds p := hA0
  rw [Try.params3] at hA hval hsz
  obtain ⟨v0, vs0, d0, ds0, p0, q0, hargs, rfl, rfl, h0, r0⟩ := trodAll_cons hA
  obtain ⟨v1, vs1, d1, ds1, p1, q1, rfl, rfl, rfl, h1, r1⟩ := trodAll_cons r0
  obtain ⟨v2, vs2, d2, ds2, p2, q2, rfl, rfl, rfl, h2, r2⟩ := trodAll_cons r1
  obtain ⟨v3, vs3, d3, ds3, p3, q3, rfl, rfl, rfl, h3, r3⟩ := trodAll_cons r2
  obtain ⟨v4, vs4, d4, ds4, p4, q4, rfl, rfl, rfl, h4, r4⟩ := trodAll_cons r3
  obtain ⟨rfl, rfl, rfl⟩ := trodAll_nil r4
  obtain rfl : args = #[v0, v1, v2, v3, v4] := by cases args; simp_all
  obtain ⟨rfl, rfl⟩ := trodVars_none hV
  have k0 := h0
  have k1 := h1
  have k2 := h2
  have k3 := h3
  have k4 := h4
  obtain ⟨A0, c0, xs0, rfl, at0, g0⟩ := open_En Mar.dM Mar.R64 Try.underlying22 cells48 (fun n cs y hy => by
      obtain ⟨hl, hg⟩ := encArr Try.underlying48 cells48 Try.underlying3 cells3 hy
      match cs, hl with
      | [u, v, x], _ =>
        obtain ⟨a, rfl, wa⟩ := hg 0 u rfl
        obtain ⟨b, rfl, wb⟩ := hg 1 v rfl
        obtain ⟨c, rfl, wc⟩ := hg 2 x rfl
        exact ⟨⟨a, b, c⟩, rfl, wfB wa, wfB wb, wfB wc⟩) (hval 0 22 v0 rfl rfl) h0
  obtain ⟨A1, c1, xs1, rfl, at1, g1⟩ := open_En Mar.dM (fun _ => True) Try.underlying23 cells26 (fun n cs y hy => by
      obtain ⟨a, b, c, rfl, _⟩ := enc3 Try.underlying26 cells26 _ _ _ rfl rfl rfl rfl Try.underlying3 Try.underlying3 Try.underlying3 cells3 cells3 cells3 hy
      exact ⟨⟨a, b, c⟩, rfl, trivial⟩) (hval 1 23 v1 rfl rfl) h1
  have sz1 := sized_En hsz (j := 1) Try.underlying23 rfl rfl h1 24 (by kernel_rfl)
  obtain ⟨A2, c2, xs2, rfl, at2, g2⟩ := open_En Mar.dS (fun _ => True) Try.underlying24 cells44 (fun n cs y hy => by
      obtain ⟨a, b, rfl, _⟩ := enc2 Try.underlying44 cells44 _ _ rfl rfl rfl Try.underlying3 Try.underlying3 cells3 cells3 hy
      exact ⟨⟨a, b⟩, rfl, trivial⟩) (hval 2 24 v2 rfl rfl) h2
  have sz2 := sized_En hsz (j := 2) Try.underlying24 rfl rfl h2 16 (by kernel_rfl)
  obtain ⟨e30, e31, e32, y30, y31, y32, m3, rfl, rfl, rfl, hy30, hy31, hy32⟩ := Go.Joins.open_agg3 Try.underlying26 (by kernel_rfl) cells26 (hval 3 26 v3 rfl rfl) h3
  obtain ⟨s3, u30, rfl, ws3⟩ := DataW.trod_int Try.underlying3 hy30
  obtain ⟨vv3, u31, rfl, wv3⟩ := DataW.trod_int Try.underlying3 hy31
  obtain ⟨pr3, u32, rfl, wp3⟩ := DataW.trod_int Try.underlying3 hy32
  simp at u30 u31 u32
  subst u30 u31 u32
  obtain ⟨a4, rfl, rfl, rfl, w4⟩ := open_int Try.underlying3 (hval 4 3 v4 rfl rfl) h4
  have b4 := wfB w4
  clear hsz hsz0
  refine (Mar.tells_law A0 c0 xs0 A1 c1 xs1 A2 c2 xs2 ⟨s3, vv3, pr3⟩ a4 W at0 g0 at1 sz1 at2 sz2 b4).mono fun e W' ⟨he, bel⟩ => ?_
  subst he
  exact ⟨_, rfl, _, _, _, [], _, [], hW', trodAll_mk1 (shut_bool Try.underlying4 _), (trodAll_cons_mk (Below.trod laidOut (by kernel_rfl) (of_decide_eq_true (by kernel_rfl)) k0 bel (fun x hx => by simpa using hW'.lt x (by simp_all))) (trodAll_cons_mk (Below.trod laidOut (by kernel_rfl) (of_decide_eq_true (by kernel_rfl)) k1 bel (fun x hx => by simpa using hW'.lt x (by simp_all))) (trodAll_cons_mk (Below.trod laidOut (by kernel_rfl) (of_decide_eq_true (by kernel_rfl)) k2 bel (fun x hx => by simpa using hW'.lt x (by simp_all))) (trodAll_cons_mk (Below.trod laidOut (by kernel_rfl) (of_decide_eq_true (by kernel_rfl)) k3 bel (fun x hx => by simpa using hW'.lt x (by simp_all))) (trodAll_cons_mk (Below.trod laidOut (by kernel_rfl) (of_decide_eq_true (by kernel_rfl)) k4 bel (fun x hx => by simpa using hW'.lt x (by simp_all))) trodAll_mk0))))), rfl, bel.frame _, fun h => by cases h⟩
theorem over : Rows.marketTellsRow.holds Try.pinned (OpenSpec.ofChange Rows.marketTellsSpec) :=
  OpenClaim.holds_of_wide 3 Try.f3 rfl rfl rfl rfl rfl rfl rfl ⟨rfl, rfl, rfl, rfl, rfl⟩ rfl rfl rfl rfl rfl (by kernel_rfl) Try.func3 (by kernel_rfl)
    (of_decide_eq_true (by kernel_rfl)) (by unfold Func.isWrapper; first | (rw [if_pos (by decide +kernel)]; kernel_rfl) | (rw [if_neg (by decide +kernel)]; exact ⟨rfl, rfl⟩))
    (fun os started H enc _ => lifted os started H enc)
theorem proved : Rows.MarketTellsSaid := over
#print axioms proved
end Go.Proofs.Ytkmmiiaadoinpaa.marketTells
namespace Go.Proofs.Ytkmmiiaadoinpaa
/-- The row, under a short name, for the claim. -/
theorem marketTells_holds : Rows.MarketTellsSaid := marketTells.proved
end Go.Proofs.Ytkmmiiaadoinpaa
