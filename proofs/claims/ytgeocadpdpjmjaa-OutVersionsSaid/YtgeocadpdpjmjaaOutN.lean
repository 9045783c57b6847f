/- OutVersions: its walk. -/
import Derived.Test.YtgeocadpdpjmjaaOutM
import Derived.Test.YtgeocadpdpjmjaaFast
namespace Go.Proofs.Ytgeocadpdpjmjaa.Out
open Go.RowKit Go.Proofs.Ytgeocadpdpjmjaa.Mem Go.Proofs.Ytgeocadpdpjmjaa.Fast

theorem sendX_v (x : Outs) (now : Int) : (sendX x now).v = x.v := by unfold sendX; split <;> (try unfold sendO) <;> (try split) <;> rfl
theorem sendX_p (x : Outs) (now : Int) : (sendX x now).p = x.p := by unfold sendX; split <;> (try unfold sendO) <;> (try split) <;> rfl
theorem state_v (b : Bool) (x : Outs) (k : Int) : (if b = true then stateO x k else x).v = x.v := by split <;> rfl
theorem revive_v (b : Bool) (x : Outs) (k : Int) : (if b = true then reviveO x k else x).v = x.v := by split <;> rfl
theorem set_get {L : List Outs} (hl : L.length = 4) {s : Nat} (hs : s < 4) (y : Outs) : (L.set s y)[s]? = some y := List.getElem?_set_self (by omega)
theorem set_len {L : List Outs} (hl : L.length = 4) (s : Nat) (y : Outs) : (L.set s y).length = 4 := by rw [List.length_set]; exact hl
theorem set_away {L : List Outs} {s q : Nat} (h : q ≠ s) (y x : Outs) (hx : L[q]? = some x) : (L.set s y)[q]? = some x := by rw [List.getElem?_set_ne (Ne.symm h)]; exact hx

theorem quiet_add_same {P : Program} {f : FuncId} {args : Array Value} {w : World} {a n : Nat} {v : Value}
    (h : Calls P f args (w.drewN (a + n)) fun e w' => e = .returned v ∧ w' = w.drewN (a + n)) :
    Calls P f args (w.drewN (a + n)) fun e w'' => e = .returned v ∧ ∃ m, w'' = w.drewN (a + m) :=
  h.mono fun _ _ ⟨he, hm⟩ => ⟨he, n, hm⟩
set_option maxRecDepth 100000 in
set_option maxHeartbeats 8000000 in
theorem versions_law (A : Option Addr) (c : Nat) (rs : List Raw) (sku price now : Int) (w : World) (h : dR.At w A c rs) (hr : ∀ r ∈ rs, R64 r) (b2 : I64 sku) (b3 : I64 price) (b4 : I64 now) :
    Calls Try.prog 6 #[.slice A rs.length c, .int .i64 sku, .int .i64 price, .int .i64 now] w fun e w' => e = .returned (.bool true) ∧ Below w.heap.size w w' := by
  have H := Lib.hid h
  have HR := Lib.hid hr
  have P2 : Pick sku 4 (pickI sku 4) := ⟨b2, by omega, rfl⟩
  have P3 : Pick price 900 (pickI price 900) := ⟨b3, by omega, rfl⟩
  have P4 : Pick now 500 (pickI now 500) := ⟨b4, by omega, rfl⟩
  have d2 := pick_bd sku 4 (by omega)
  have d3 := pick_bd price 900 (by omega)
  generalize pickI sku 4 = y2 at P2 d2
  generalize pickI price 900 = y3 at P3 d3
  generalize pickI now 500 = t at P4
  obtain ⟨s, rfl⟩ : ∃ s : Nat, y2 = s := ⟨y2.toNat, by omega⟩
  have hs4 : s < 4 := by omega
  have hwp : IntKind.i64.wrap (1 + y3) = 1 + y3 := IntWalk.i64_in _ (by omega)
  clear h hr b2 b3 b4
  go_enter Try.func6, Try.ntmps6
  go_wp2_with fail
  refine (awake_any _).mono ?_
  rintro e w1 ⟨rfl, b1⟩
  have B1 := Lib.hid b1
  clear b1
  go_wp2_with fail
  refine (box_any _ _ _ _ (H.out.below B1.out) HR.out).mono ?_
  rintro e w2 ⟨A2, c2, L, rfl, o2, g2, b2⟩
  have O2 := Lib.hid o2.at_
  have G2 := Lib.hid g2
  have B2 := Lib.hid (below_step B1.out b2)
  clear o2 g2 b2
  have hx : L[s]? = some (L[s]'(by have := G2.out.1; omega)) := List.getElem?_eq_getElem _
  have hF := G2.out.2 _ (List.getElem_mem (l := L) (n := s) (by have := G2.out.1; omega))
  generalize L[s]'(by have := G2.out.1; omega) = z at hx hF
  have HX := Lib.hid hx
  have HF := Lib.hid hF
  have hz1 := hF.1.1
  have hz2 := hF.1.2
  clear hx hF
  obtain ⟨bA, oA, rfl, hbA, a0, a1, _, _, _⟩ := at_getO O2.out s _ HX.out
  go_wp2_with fail
  refine (pick_of _ P2).mono ?_
  rintro e w' ⟨rfl, rfl⟩
  go_wp2_with fail
  refine (pick_of _ P4).mono ?_
  rintro e w' ⟨rfl, rfl⟩
  go_wp2_with fail
  refine (pick_of _ P3).mono ?_
  rintro e w' ⟨rfl, rfl⟩
  go_wp2_with fail
  refine (intend_any _ c2 s 4 L G2.out.1 z (1 + y3) t _ O2.out (by omega) HX.out (by omega) (by omega) hz1 (by omega)).mono ?_
  rintro e w3 ⟨A3, c3, rfl, o3, b3⟩
  obtain ⟨g3, rfl, hge3, hlt3, i0, i1, _, _, _⟩ := own_getO o3 s _ (set_get G2.out.1 hs4 _)
  have i0' : w3.cell? ⟨g3, s * 5, none⟩ = some (.int .i64 (z.v + 1)) := i0
  have i1' : w3.cell? ⟨g3, s * 5 + 1, none⟩ = some (.int .i64 (1 + y3)) := i1
  obtain ⟨ya, hya⟩ : ∃ y, intendO z (1 + y3) t = y := ⟨_, rfl⟩
  rw [hya] at o3
  have O3 := Lib.hid o3.at_
  have T3 := Lib.hid b3
  have z3 := b3.size
  have x0 := below_cell b3 a0
  clear o3 i0 i1 hya
  go_wp2_with fail
  refine (send_any _ c2 s 4 L G2.out.1 z t _ (O2.out.below b3) (by omega) HX.out HF.out.2.1.1).mono ?_
  clear b3
  rintro e w4 ⟨A4, c4, rfl, o4, b4⟩
  obtain ⟨g4, rfl, hge4, hlt4, j0, j1, _, _, _⟩ := own_getO o4 s _ (set_get G2.out.1 hs4 _)
  rw [sendX_v] at j0
  rw [sendX_p] at j1
  obtain ⟨yc, hyc⟩ : ∃ y, sendX z t = y := ⟨_, rfl⟩
  rw [hyc] at o4
  generalize sendM s z t = mm
  generalize sendIs z t = mi
  generalize sendE z t = me
  have O4 := Lib.hid o4.at_
  have T4 : Hid (Below w4.heap.size w4 (w4.alloc (.cells #[.int .i64 mm.s, .int .i64 mm.v, .int .i64 mm.p] 30))) := below_alloc (Below.refl _ _) _
  have z4 := b4.size
  have x1 := below_cell b4 x0
  have TA := Lib.hid b4
  clear o4 b4 hyc
  have hn4 : bA < w4.heap.size := by omega
  have hn4' : bA ≠ w4.heap.size := by omega
  obtain ⟨ba, hba⟩ : ∃ b, ackB z z.v = b := ⟨_, rfl⟩
  obtain ⟨br, hbr⟩ : ∃ b, rejB z z.v = b := ⟨_, rfl⟩
  obtain ⟨bv, hbv⟩ : ∃ b, decide (z.s = 3) = b := ⟨_, rfl⟩
  have CA := Lib.hid (fun W hW => ack_any (some ⟨bA, oA, none⟩) c2 s 4 L G2.out.1 z z.v ba hba W hW (by omega) HX.out)
  have CR := Lib.hid (fun W hW => rej_any (some ⟨bA, oA, none⟩) c2 s 4 L G2.out.1 z z.v br hbr W hW (by omega) HX.out)
  have CV := Lib.hid (fun W hW => rev_any (some ⟨bA, oA, none⟩) c2 s 4 L G2.out.1 z t bv hbv W hW (by omega) HX.out)
  have ea := Lib.hid (state_v ba z 2)
  have er := Lib.hid (state_v br z 3)
  have ev := Lib.hid (revive_v bv z t)
  generalize (if ba = true then stateO z 2 else z) = yd at CA ea
  generalize (if br = true then stateO z 3 else z) = yf at CR er
  generalize (if bv = true then reviveO z t else z) = yg at CV ev
  clear hba hbr hbv
  have HV := Lib.hid (HF.out.1)
  obtain ⟨zv, zp, zt, zn, zs⟩ := z
  go_wp2_with fail
  refine (CA.out _ (((O2.out.below T3.out).below TA.out).below T4.out)).mono ?_
  rintro e w5 ⟨A5, c5, rfl, o5, b5⟩
  obtain ⟨g5, rfl, hge5, hlt5, k0, _, _, _, _⟩ := own_getO o5 s _ (set_get G2.out.1 hs4 _)
  rw [ea.out] at k0
  have O5 := Lib.hid o5.at_
  have T5 : Hid (Below w4.heap.size w4 w5) := below_step T4.out b5
  have z5 : w4.heap.size ≤ w5.heap.size := T5.out.size
  have x2 := below_cell T5.out x1
  clear o5 b5
  go_wp2_with fail
  refine (CR.out _ (((O2.out.below T3.out).below TA.out).below T5.out)).mono ?_
  rintro e w6 ⟨A6, c6, rfl, o6, b6⟩
  obtain ⟨g6, rfl, hge6, hlt6, l0, _, _, _, _⟩ := own_getO o6 s _ (set_get G2.out.1 hs4 _)
  rw [er.out] at l0
  have O6 := Lib.hid o6.at_
  have T6 := Lib.hid b6
  have z6 := b6.size
  have x3 := below_cell b6 x2
  clear o6 b6
  go_wp2_with fail
  refine (CV.out _ ((((O2.out.below T3.out).below TA.out).below T5.out).below T6.out)).mono ?_
  rintro e w7 ⟨A7, c7, rfl, o7, b7⟩
  obtain ⟨g7, rfl, hge7, hlt7, m0, _, _, _, _⟩ := own_getO o7 s _ (set_get G2.out.1 hs4 _)
  rw [ev.out] at m0
  have O7 := Lib.hid o7.at_
  have T7 := Lib.hid b7
  have z7 := b7.size
  have TB := below_cell (below_step T5.out (below_step T6.out T7.out)) x1
  have TP := below_cell (below_step T3.out (below_step TA.out (below_step T5.out (below_step T6.out T7.out)))) a1
  have q30 := below_cell (below_step TA.out (below_step T5.out (below_step T6.out T7.out))) i0'
  have q31 := below_cell (below_step TA.out (below_step T5.out (below_step T6.out T7.out))) i1'
  have q40 := below_cell (below_step T5.out (below_step T6.out T7.out)) j0
  have q41 := below_cell (below_step T5.out (below_step T6.out T7.out)) j1
  have q50 := below_cell (below_step T6.out T7.out) k0
  have q60 := below_cell T7.out l0
  have N3 := Lib.hid (((((O3.out.below TA.out).below T5.out).below T6.out).below T7.out).below (below_alloc (Below.refl _ _) (.cells #[.slice (some ⟨g3, 0, none⟩) 4 c3, .slice (some ⟨g4, 0, none⟩) 4 c4, .slice (some ⟨g5, 0, none⟩) 4 c5, .slice (some ⟨g6, 0, none⟩) 4 c6, .slice (some ⟨g7, 0, none⟩) 4 c7] 24)))
  have N4 := Lib.hid ((((O4.out.below T5.out).below T6.out).below T7.out).below (below_alloc (Below.refl _ _) (.cells #[.slice (some ⟨g3, 0, none⟩) 4 c3, .slice (some ⟨g4, 0, none⟩) 4 c4, .slice (some ⟨g5, 0, none⟩) 4 c5, .slice (some ⟨g6, 0, none⟩) 4 c6, .slice (some ⟨g7, 0, none⟩) 4 c7] 24)))
  have N5 := Lib.hid (((O5.out.below T6.out).below T7.out).below (below_alloc (Below.refl _ _) (.cells #[.slice (some ⟨g3, 0, none⟩) 4 c3, .slice (some ⟨g4, 0, none⟩) 4 c4, .slice (some ⟨g5, 0, none⟩) 4 c5, .slice (some ⟨g6, 0, none⟩) 4 c6, .slice (some ⟨g7, 0, none⟩) 4 c7] 24)))
  have N6 := Lib.hid ((O6.out.below T7.out).below (below_alloc (Below.refl _ _) (.cells #[.slice (some ⟨g3, 0, none⟩) 4 c3, .slice (some ⟨g4, 0, none⟩) 4 c4, .slice (some ⟨g5, 0, none⟩) 4 c5, .slice (some ⟨g6, 0, none⟩) 4 c6, .slice (some ⟨g7, 0, none⟩) 4 c7] 24)))
  have N7 := Lib.hid (O7.out.below (below_alloc (Below.refl _ _) (.cells #[.slice (some ⟨g3, 0, none⟩) 4 c3, .slice (some ⟨g4, 0, none⟩) 4 c4, .slice (some ⟨g5, 0, none⟩) 4 c5, .slice (some ⟨g6, 0, none⟩) 4 c6, .slice (some ⟨g7, 0, none⟩) 4 c7] 24)))
  have N2 := Lib.hid ((((((O2.out.below T3.out).below TA.out).below T5.out).below T6.out).below T7.out).below (below_alloc (Below.refl _ _) (.cells #[.slice (some ⟨g3, 0, none⟩) 4 c3, .slice (some ⟨g4, 0, none⟩) 4 c4, .slice (some ⟨g5, 0, none⟩) 4 c5, .slice (some ⟨g6, 0, none⟩) 4 c6, .slice (some ⟨g7, 0, none⟩) 4 c7] 24)))
  have BB := Lib.hid (below_alloc (below_step (below_step (below_step (below_step (below_step B2.out T3.out) TA.out) T5.out) T6.out) T7.out) (.cells #[.slice (some ⟨g3, 0, none⟩) 4 c3, .slice (some ⟨g4, 0, none⟩) 4 c4, .slice (some ⟨g5, 0, none⟩) 4 c5, .slice (some ⟨g6, 0, none⟩) 4 c6, .slice (some ⟨g7, 0, none⟩) 4 c7] 24))
  have u1 : bA < w7.heap.size := by omega
  have u2 : g3 < w7.heap.size := by omega
  have u3 : g4 < w7.heap.size := by omega
  have u4 : g5 < w7.heap.size := by omega
  have u5 : g6 < w7.heap.size := by omega
  have u6 : g7 < w7.heap.size := by omega
  clear o7 b7 x0 x1 x2 x3 i0' i1' j0 j1 k0 l0 a0 a1 z3 z4 z5 z6 z7 hge3 hge4 hge5 hge6 hge7 hlt3 hlt4 hlt5 hlt6 hlt7 hn4 hn4' hbA
  go_wp2_with fail
  go_loopw [90] (fun jv wr => ∃ (j m : Nat), j ≤ 5 ∧ jv = .int .i64 j ∧ wr = (w7.alloc (.cells #[.slice (some ⟨g3, 0, none⟩) 4 c3, .slice (some ⟨g4, 0, none⟩) 4 c4, .slice (some ⟨g5, 0, none⟩) 4 c5, .slice (some ⟨g6, 0, none⟩) 4 c6, .slice (some ⟨g7, 0, none⟩) 4 c7] 24)).drewN m) (fun jv _ => 5 - (intOf jv).toNat)
  case atStart => exact ⟨0, 0, Nat.zero_le _, rfl, rfl⟩
  case round =>
    obtain ⟨j, m, hj5, rfl, rfl⟩ := hrel
    have hc : j = 0 ∨ j = 1 ∨ j = 2 ∨ j = 3 ∨ j = 4 ∨ j = 5 := by omega
    clear hj5
    rcases hc with rfl | rfl | rfl | rfl | rfl | rfl
    · as_aux_lemma =>
      go_wp2_with fail
      go_loopw [27] (fun kv wr2 => ∃ (q m2 : Nat), q ≤ 4 ∧ kv = .int .i64 q ∧ wr2 = (w7.alloc (.cells #[.slice (some ⟨g3, 0, none⟩) 4 c3, .slice (some ⟨g4, 0, none⟩) 4 c4, .slice (some ⟨g5, 0, none⟩) 4 c5, .slice (some ⟨g6, 0, none⟩) 4 c6, .slice (some ⟨g7, 0, none⟩) 4 c7] 24)).drewN m2) (fun kv _ => 4 - (intOf kv).toNat)
      case atStart => exact ⟨0, m, Nat.zero_le _, rfl, rfl⟩
      case round =>
        obtain ⟨q, m2, hq4, rfl, rfl⟩ := hrel
        by_cases hlt : q < 4
        · by_cases hqs : q = s
          · have g1 : ((q : Int) != (s : Int)) = false := by simp [hqs]
            have g2 : (q != s) = false := by simp [hqs]
            clear hqs
            go_wp2_with fail
            go_quiet (fail)
            go_wp2
            go_roundw
            case rel => first | exact ⟨q + 1, m2 + nq, by omega, by go_num, by go_simp⟩ | ((repeat apply Exists.intro); exact ⟨⟨q + 1, m2 + nq, by omega, by go_num, by go_simp⟩, rfl⟩)
            case measure => simp [intOf]; omega
          · have hxq : L[q]? = some (L[q]'(by have := G2.out.1; omega)) := List.getElem?_eq_getElem _
            generalize L[q]'(by have := G2.out.1; omega) = xq at hxq
            obtain ⟨b1, o1, e1, hb1, p0, p1, p2, p3, p4⟩ := at_getO N3.out q xq (set_away hqs _ _ hxq)
            obtain ⟨b2, o2, e2, hb2, r0, r1, r2, r3, r4⟩ := at_getO N2.out q xq hxq
            injection e1 with e1
            injection e1 with e1 e1'
            injection e2 with e2
            injection e2 with e2 e2'
            subst e1 e1' e2 e2'
            rw [Nat.zero_add] at p0 p1 p2 p3 p4
            have g1 : ((q : Int) != (s : Int)) = true := by simp; omega
            have g2 : (q != s) = true := by simpa using hqs
            clear hxq hqs
            go_wp2_with fail
            go_quiet (fail)
            go_wp2
            go_roundw
            case rel => first | exact ⟨q + 1, m2 + nq, by omega, by go_num, by go_simp⟩ | ((repeat apply Exists.intro); exact ⟨⟨q + 1, m2 + nq, by omega, by go_num, by go_simp⟩, rfl⟩)
            case measure => simp [intOf]; omega
        · obtain rfl : q = 4 := by omega
          go_wp2_with fail
          go_roundw
          case rel => first | exact ⟨1, m2, by omega, by go_num, rfl⟩ | ((repeat apply Exists.intro); exact ⟨⟨1, m2, by omega, by go_num, rfl⟩, rfl⟩)
          case measure => simp [intOf]
    · as_aux_lemma =>
      go_wp2_with fail
      go_loopw [27] (fun kv wr2 => ∃ (q m2 : Nat), q ≤ 4 ∧ kv = .int .i64 q ∧ wr2 = (w7.alloc (.cells #[.slice (some ⟨g3, 0, none⟩) 4 c3, .slice (some ⟨g4, 0, none⟩) 4 c4, .slice (some ⟨g5, 0, none⟩) 4 c5, .slice (some ⟨g6, 0, none⟩) 4 c6, .slice (some ⟨g7, 0, none⟩) 4 c7] 24)).drewN m2) (fun kv _ => 4 - (intOf kv).toNat)
      case atStart => exact ⟨0, m, Nat.zero_le _, rfl, rfl⟩
      case round =>
        obtain ⟨q, m2, hq4, rfl, rfl⟩ := hrel
        by_cases hlt : q < 4
        · by_cases hqs : q = s
          · have g1 : ((q : Int) != (s : Int)) = false := by simp [hqs]
            have g2 : (q != s) = false := by simp [hqs]
            clear hqs
            go_wp2_with fail
            go_quiet (fail)
            go_wp2
            go_roundw
            case rel => first | exact ⟨q + 1, m2 + nq, by omega, by go_num, by go_simp⟩ | ((repeat apply Exists.intro); exact ⟨⟨q + 1, m2 + nq, by omega, by go_num, by go_simp⟩, rfl⟩)
            case measure => simp [intOf]; omega
          · have hxq : L[q]? = some (L[q]'(by have := G2.out.1; omega)) := List.getElem?_eq_getElem _
            generalize L[q]'(by have := G2.out.1; omega) = xq at hxq
            obtain ⟨b1, o1, e1, hb1, p0, p1, p2, p3, p4⟩ := at_getO N4.out q xq (set_away hqs _ _ hxq)
            obtain ⟨b2, o2, e2, hb2, r0, r1, r2, r3, r4⟩ := at_getO N2.out q xq hxq
            injection e1 with e1
            injection e1 with e1 e1'
            injection e2 with e2
            injection e2 with e2 e2'
            subst e1 e1' e2 e2'
            rw [Nat.zero_add] at p0 p1 p2 p3 p4
            have g1 : ((q : Int) != (s : Int)) = true := by simp; omega
            have g2 : (q != s) = true := by simpa using hqs
            clear hxq hqs
            go_wp2_with fail
            go_quiet (fail)
            go_wp2
            go_roundw
            case rel => first | exact ⟨q + 1, m2 + nq, by omega, by go_num, by go_simp⟩ | ((repeat apply Exists.intro); exact ⟨⟨q + 1, m2 + nq, by omega, by go_num, by go_simp⟩, rfl⟩)
            case measure => simp [intOf]; omega
        · obtain rfl : q = 4 := by omega
          go_wp2_with fail
          go_roundw
          case rel => first | exact ⟨2, m2, by omega, by go_num, rfl⟩ | ((repeat apply Exists.intro); exact ⟨⟨2, m2, by omega, by go_num, rfl⟩, rfl⟩)
          case measure => simp [intOf]
    · as_aux_lemma =>
      go_wp2_with fail
      go_loopw [27] (fun kv wr2 => ∃ (q m2 : Nat), q ≤ 4 ∧ kv = .int .i64 q ∧ wr2 = (w7.alloc (.cells #[.slice (some ⟨g3, 0, none⟩) 4 c3, .slice (some ⟨g4, 0, none⟩) 4 c4, .slice (some ⟨g5, 0, none⟩) 4 c5, .slice (some ⟨g6, 0, none⟩) 4 c6, .slice (some ⟨g7, 0, none⟩) 4 c7] 24)).drewN m2) (fun kv _ => 4 - (intOf kv).toNat)
      case atStart => exact ⟨0, m, Nat.zero_le _, rfl, rfl⟩
      case round =>
        obtain ⟨q, m2, hq4, rfl, rfl⟩ := hrel
        by_cases hlt : q < 4
        · by_cases hqs : q = s
          · have g1 : ((q : Int) != (s : Int)) = false := by simp [hqs]
            have g2 : (q != s) = false := by simp [hqs]
            clear hqs
            go_wp2_with fail
            go_quiet (fail)
            go_wp2
            go_roundw
            case rel => first | exact ⟨q + 1, m2 + nq, by omega, by go_num, by go_simp⟩ | ((repeat apply Exists.intro); exact ⟨⟨q + 1, m2 + nq, by omega, by go_num, by go_simp⟩, rfl⟩)
            case measure => simp [intOf]; omega
          · have hxq : L[q]? = some (L[q]'(by have := G2.out.1; omega)) := List.getElem?_eq_getElem _
            generalize L[q]'(by have := G2.out.1; omega) = xq at hxq
            obtain ⟨b1, o1, e1, hb1, p0, p1, p2, p3, p4⟩ := at_getO N5.out q xq (set_away hqs _ _ hxq)
            obtain ⟨b2, o2, e2, hb2, r0, r1, r2, r3, r4⟩ := at_getO N2.out q xq hxq
            injection e1 with e1
            injection e1 with e1 e1'
            injection e2 with e2
            injection e2 with e2 e2'
            subst e1 e1' e2 e2'
            rw [Nat.zero_add] at p0 p1 p2 p3 p4
            have g1 : ((q : Int) != (s : Int)) = true := by simp; omega
            have g2 : (q != s) = true := by simpa using hqs
            clear hxq hqs
            go_wp2_with fail
            go_quiet (fail)
            go_wp2
            go_roundw
            case rel => first | exact ⟨q + 1, m2 + nq, by omega, by go_num, by go_simp⟩ | ((repeat apply Exists.intro); exact ⟨⟨q + 1, m2 + nq, by omega, by go_num, by go_simp⟩, rfl⟩)
            case measure => simp [intOf]; omega
        · obtain rfl : q = 4 := by omega
          go_wp2_with fail
          go_roundw
          case rel => first | exact ⟨3, m2, by omega, by go_num, rfl⟩ | ((repeat apply Exists.intro); exact ⟨⟨3, m2, by omega, by go_num, rfl⟩, rfl⟩)
          case measure => simp [intOf]
    · as_aux_lemma =>
      go_wp2_with fail
      go_loopw [27] (fun kv wr2 => ∃ (q m2 : Nat), q ≤ 4 ∧ kv = .int .i64 q ∧ wr2 = (w7.alloc (.cells #[.slice (some ⟨g3, 0, none⟩) 4 c3, .slice (some ⟨g4, 0, none⟩) 4 c4, .slice (some ⟨g5, 0, none⟩) 4 c5, .slice (some ⟨g6, 0, none⟩) 4 c6, .slice (some ⟨g7, 0, none⟩) 4 c7] 24)).drewN m2) (fun kv _ => 4 - (intOf kv).toNat)
      case atStart => exact ⟨0, m, Nat.zero_le _, rfl, rfl⟩
      case round =>
        obtain ⟨q, m2, hq4, rfl, rfl⟩ := hrel
        by_cases hlt : q < 4
        · by_cases hqs : q = s
          · have g1 : ((q : Int) != (s : Int)) = false := by simp [hqs]
            have g2 : (q != s) = false := by simp [hqs]
            clear hqs
            go_wp2_with fail
            go_quiet (fail)
            go_wp2
            go_roundw
            case rel => first | exact ⟨q + 1, m2 + nq, by omega, by go_num, by go_simp⟩ | ((repeat apply Exists.intro); exact ⟨⟨q + 1, m2 + nq, by omega, by go_num, by go_simp⟩, rfl⟩)
            case measure => simp [intOf]; omega
          · have hxq : L[q]? = some (L[q]'(by have := G2.out.1; omega)) := List.getElem?_eq_getElem _
            generalize L[q]'(by have := G2.out.1; omega) = xq at hxq
            obtain ⟨b1, o1, e1, hb1, p0, p1, p2, p3, p4⟩ := at_getO N6.out q xq (set_away hqs _ _ hxq)
            obtain ⟨b2, o2, e2, hb2, r0, r1, r2, r3, r4⟩ := at_getO N2.out q xq hxq
            injection e1 with e1
            injection e1 with e1 e1'
            injection e2 with e2
            injection e2 with e2 e2'
            subst e1 e1' e2 e2'
            rw [Nat.zero_add] at p0 p1 p2 p3 p4
            have g1 : ((q : Int) != (s : Int)) = true := by simp; omega
            have g2 : (q != s) = true := by simpa using hqs
            clear hxq hqs
            go_wp2_with fail
            go_quiet (fail)
            go_wp2
            go_roundw
            case rel => first | exact ⟨q + 1, m2 + nq, by omega, by go_num, by go_simp⟩ | ((repeat apply Exists.intro); exact ⟨⟨q + 1, m2 + nq, by omega, by go_num, by go_simp⟩, rfl⟩)
            case measure => simp [intOf]; omega
        · obtain rfl : q = 4 := by omega
          go_wp2_with fail
          go_roundw
          case rel => first | exact ⟨4, m2, by omega, by go_num, rfl⟩ | ((repeat apply Exists.intro); exact ⟨⟨4, m2, by omega, by go_num, rfl⟩, rfl⟩)
          case measure => simp [intOf]
    · as_aux_lemma =>
      go_wp2_with fail
      go_loopw [27] (fun kv wr2 => ∃ (q m2 : Nat), q ≤ 4 ∧ kv = .int .i64 q ∧ wr2 = (w7.alloc (.cells #[.slice (some ⟨g3, 0, none⟩) 4 c3, .slice (some ⟨g4, 0, none⟩) 4 c4, .slice (some ⟨g5, 0, none⟩) 4 c5, .slice (some ⟨g6, 0, none⟩) 4 c6, .slice (some ⟨g7, 0, none⟩) 4 c7] 24)).drewN m2) (fun kv _ => 4 - (intOf kv).toNat)
      case atStart => exact ⟨0, m, Nat.zero_le _, rfl, rfl⟩
      case round =>
        obtain ⟨q, m2, hq4, rfl, rfl⟩ := hrel
        by_cases hlt : q < 4
        · by_cases hqs : q = s
          · have g1 : ((q : Int) != (s : Int)) = false := by simp [hqs]
            have g2 : (q != s) = false := by simp [hqs]
            clear hqs
            go_wp2_with fail
            go_quiet (fail)
            go_wp2
            go_roundw
            case rel => first | exact ⟨q + 1, m2 + nq, by omega, by go_num, by go_simp⟩ | ((repeat apply Exists.intro); exact ⟨⟨q + 1, m2 + nq, by omega, by go_num, by go_simp⟩, rfl⟩)
            case measure => simp [intOf]; omega
          · have hxq : L[q]? = some (L[q]'(by have := G2.out.1; omega)) := List.getElem?_eq_getElem _
            generalize L[q]'(by have := G2.out.1; omega) = xq at hxq
            obtain ⟨b1, o1, e1, hb1, p0, p1, p2, p3, p4⟩ := at_getO N7.out q xq (set_away hqs _ _ hxq)
            obtain ⟨b2, o2, e2, hb2, r0, r1, r2, r3, r4⟩ := at_getO N2.out q xq hxq
            injection e1 with e1
            injection e1 with e1 e1'
            injection e2 with e2
            injection e2 with e2 e2'
            subst e1 e1' e2 e2'
            rw [Nat.zero_add] at p0 p1 p2 p3 p4
            have g1 : ((q : Int) != (s : Int)) = true := by simp; omega
            have g2 : (q != s) = true := by simpa using hqs
            clear hxq hqs
            go_wp2_with fail
            go_quiet (fail)
            go_wp2
            go_roundw
            case rel => first | exact ⟨q + 1, m2 + nq, by omega, by go_num, by go_simp⟩ | ((repeat apply Exists.intro); exact ⟨⟨q + 1, m2 + nq, by omega, by go_num, by go_simp⟩, rfl⟩)
            case measure => simp [intOf]; omega
        · obtain rfl : q = 4 := by omega
          go_wp2_with fail
          go_roundw
          case rel => first | exact ⟨5, m2, by omega, by go_num, rfl⟩ | ((repeat apply Exists.intro); exact ⟨⟨5, m2, by omega, by go_num, rfl⟩, rfl⟩)
          case measure => simp [intOf]
    · as_aux_lemma =>
      have hwv : IntKind.i64.wrap (zv + 1) = zv + 1 := IntWalk.i64_in _ (by have h1 : 0 ≤ zv := HV.out.1; have h2 : zv ≤ 30 := HV.out.2; omega)
      have TB' : w7.cell? ⟨bA, oA + s * 5, none⟩ = some (.int .i64 zv) := TB
      have TP' : w7.cell? ⟨bA, oA + s * 5 + 1, none⟩ = some (.int .i64 zp) := TP
      clear TB TP
      go_wp2_with fail
      simp only [List.append]
      refine wp_region_quiet_lit (by kernel_rfl) (lexB_fast 96 (by kernel_rfl) (by as_aux_lemma => kernel_rfl) ?chk (by as_aux_lemma => kernel_rfl)) ?_
      case chk =>
        intro k hk
        by_cases k1 : k < 24
        · exact all_chunk _ 0 24 (by as_aux_lemma => kernel_rfl) k (by omega) (by omega)
        · by_cases k2 : k < 48
          · exact all_chunk _ 24 24 (by as_aux_lemma => kernel_rfl) k (by omega) (by omega)
          · by_cases k3 : k < 72
            · exact all_chunk _ 48 24 (by as_aux_lemma => kernel_rfl) k (by omega) (by omega)
            · exact all_chunk _ 72 24 (by as_aux_lemma => kernel_rfl) k (by omega) (by omega)
      repeat (go_big_quiet_step ((go_at_call 10; exact quiet_add_same ((pick_of _ P3).mono fun _ _ h => ⟨h.1, h.2.symm⟩))))
      refine wpQuiet_nil ?_
      intro _ hw'
      obtain ⟨nq, hw''⟩ := hw'
      subst hw''
      go_wp2
      go_ret
      exact ⟨rfl, below_drewN (below_drewN BB.out m) nq⟩
end Go.Proofs.Ytgeocadpdpjmjaa.Out
