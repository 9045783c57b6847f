/- BookSources returns true at every input. No condition. -/
import Derived.Test.YtjehhpppihmpgaaRows
import Derived.Test.YtjehhpppihmpgaaBooU
import Derived.Test.YtjehhpppihmpgaaOpen2
namespace Go.Proofs.Ytjehhpppihmpgaa.bookSources
open Go.ChangeShapes Go.WideShapes Go.ChangeAt Go.RowKit Go.Proofs.Ytjehhpppihmpgaa.Mem
set_option linter.unusedVariables false
theorem own : ownKnob Try.prog.godebug = none := by kernel_rfl
theorem laidOut : laidOutB Try.prog = true := by kernel_rfl
theorem cells3 : Try.prog.cellsOf 3 = 1 := by kernel_rfl
theorem cells9 : Try.prog.cellsOf 9 = 1 := by kernel_rfl
theorem cells29 : Try.prog.cellsOf 29 = 2 := by kernel_rfl
theorem cells67 : Try.prog.cellsOf 67 = 2 := by kernel_rfl
set_option maxRecDepth 100000 in
theorem lifted (os : Os) (started : os.Started) (H : Type) (enc : TypeId × Value → H) :
    ReturnsInHanded {} Try.checked os 4 .any (Rows.bookSourcesSpec.pre6 enc Try.prog Try.f4 Rows.bookSourcesRow.domain false) (Rows.bookSourcesSpec.post enc Try.prog Try.f4 false true false false) := by
  refine returnsInHanded_of_change_sized (C := Try.checked) own started (by kernel_rfl) Try.func4
    (ChangeSpec.witness6 (enc := enc) (C := Try.checked) false ⟨#[], #[.slice none 0 0, .slice none 0 0, .string ⟨#[]⟩, .int .i64 0], []⟩ 8 (by kernel_rfl) (by kernel_rfl) (by kernel_rfl) (by kernel_rfl)) ?_
  intro W base args ds gs before hval0 hW hcnd hsz0 _
  have hsz : (DataW.weightsEach Try.prog (Try.f4.params.toList ++ Rows.bookSourcesSpec.plain.varTypes Try.prog) (ds ++ gs)).all (· ≤ reachBytes) = true := hsz0
  have hval : ∀ (j : Nat) t v, Try.f4.params[j]? = some t → args[j]? = some v → Value.okWide Try.prog W .any base t v := hval0
  have hW' := hW
  obtain ⟨p, q, hA0, hV, rfl, hfz, hnd⟩ := hW
  have hA : DataW.TrodAll enc Try.prog W 0 (fun _ => true) true Try.f4.params.toList args.toList ds p := hA0
  rw [Try.params4] at hA hval hsz
  obtain ⟨v0, vs0, d0, ds0, p0, q0, hargs, rfl, rfl, h0, r0⟩ := trodAll_cons hA
  obtain ⟨v1, vs1, d1, ds1, p1, q1, rfl, rfl, rfl, h1, r1⟩ := trodAll_cons r0
  obtain ⟨v2, vs2, d2, ds2, p2, q2, rfl, rfl, rfl, h2, r2⟩ := trodAll_cons r1
  obtain ⟨v3, vs3, d3, ds3, p3, q3, rfl, rfl, rfl, h3, r3⟩ := trodAll_cons r2
  obtain ⟨rfl, rfl, rfl⟩ := trodAll_nil r3
  obtain rfl : args = #[v0, v1, v2, v3] := by cases args; simp_all
  obtain ⟨rfl, rfl⟩ := trodVars_none hV
  have k0 := h0
  have k1 := h1
  have k2 := h2
  have k3 := h3
  obtain ⟨A0, c0, xs0, rfl, at0, _⟩ := open_En Boo.dN (fun _ => True) Try.underlying43 cells67 (fun n cs y hy => by
      obtain ⟨s, b, rfl, _⟩ := encSI Try.underlying67 cells67 _ _ rfl rfl rfl Try.underlying9 Try.underlying3 cells9 cells3 hy
      exact ⟨⟨s, b⟩, rfl, trivial⟩) (hval 0 43 v0 rfl rfl) h0
  have sz0 := sized_En hsz (j := 0) Try.underlying43 rfl rfl h0 24 (by kernel_rfl)
  obtain ⟨A1, c1, xs1, rfl, at1, g1⟩ := open_En Boo.dP Boo.T64 Try.underlying31 cells29 (fun n cs y hy => by
      obtain ⟨hl, hg⟩ := encArr Try.underlying29 cells29 Try.underlying3 cells3 hy
      match cs, hl with
      | [u, v], _ =>
        obtain ⟨a, rfl, wa⟩ := hg 0 u rfl
        obtain ⟨b, rfl, wb⟩ := hg 1 v rfl
        exact ⟨⟨a, b⟩, rfl, wfB wa, wfB wb⟩) (hval 1 31 v1 rfl rfl) h1
  obtain ⟨s2, rfl, rfl, rfl, z2⟩ := Go.ChangeMaps.open_string Try.underlying9 (hval 2 9 v2 rfl rfl) h2
  have t2 : s2.size ≤ 9223372036854775807 := by unfold maxLen at z2; omega
  obtain ⟨a3, rfl, rfl, rfl, w3⟩ := open_int Try.underlying3 (hval 3 3 v3 rfl rfl) h3
  have b3 := wfB w3
  clear hsz hsz0
  refine (Boo.sources_any A0 c0 _ xs0 rfl sz0 A1 c1 _ xs1 rfl s2 t2 a3 W at0 at1 g1).mono fun e W' ⟨he, bel⟩ => ?_
  subst he
  exact ⟨_, rfl, _, _, _, [], _, [], hW', trodAll_mk1 (shut_bool Try.underlying4 _), (trodAll_cons_mk (Below.trod laidOut (by kernel_rfl) (of_decide_eq_true (by kernel_rfl)) k0 bel (fun x hx => by simpa using hW'.lt x (by simp_all))) (trodAll_cons_mk (Below.trod laidOut (by kernel_rfl) (of_decide_eq_true (by kernel_rfl)) k1 bel (fun x hx => by simpa using hW'.lt x (by simp_all))) (trodAll_cons_mk (Below.trod laidOut (by kernel_rfl) (of_decide_eq_true (by kernel_rfl)) k2 bel (fun x hx => by simpa using hW'.lt x (by simp_all))) (trodAll_cons_mk (Below.trod laidOut (by kernel_rfl) (of_decide_eq_true (by kernel_rfl)) k3 bel (fun x hx => by simpa using hW'.lt x (by simp_all))) trodAll_mk0)))), rfl, bel.frame _, fun h => by cases h⟩
theorem over : Rows.bookSourcesRow.holds Try.pinned (OpenSpec.ofChange Rows.bookSourcesSpec) :=
  OpenClaim.holds_of_wide 4 Try.f4 rfl rfl rfl rfl rfl rfl rfl ⟨rfl, rfl, rfl, rfl, rfl⟩ rfl rfl rfl rfl rfl (by kernel_rfl) Try.func4 (by kernel_rfl)
    (of_decide_eq_true (by kernel_rfl)) (by unfold Func.isWrapper; first | (rw [if_pos (by decide +kernel)]; kernel_rfl) | (rw [if_neg (by decide +kernel)]; exact ⟨rfl, rfl⟩))
    (fun os started H enc _ => lifted os started H enc)
theorem proved : Rows.BookSourcesSaid := over
#print axioms proved
end Go.Proofs.Ytjehhpppihmpgaa.bookSources
namespace Go.Proofs.Ytjehhpppihmpgaa
/-- The row, under a short name, for the claim. -/
theorem bookSources_holds : Rows.BookSourcesSaid := bookSources.proved
end Go.Proofs.Ytjehhpppihmpgaa
