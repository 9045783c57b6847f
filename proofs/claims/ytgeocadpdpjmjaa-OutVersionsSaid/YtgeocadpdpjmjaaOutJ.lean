/- OutDue: its walk. -/
import Derived.Test.YtgeocadpdpjmjaaOutI
namespace Go.Proofs.Ytgeocadpdpjmjaa.Out
open Go.RowKit Go.Proofs.Ytgeocadpdpjmjaa.Mem

theorem dueUp_split (L : List Outs) (now : Int) (i m : Nat) (h : i ≤ m) : ∃ rest, dueUp L now m = dueUp L now i ++ rest ∧ ∀ y ∈ rest, (i : Int) ≤ y := by
  induction m with
  | zero =>
    obtain rfl : i = 0 := by omega
    exact ⟨[], by simp, fun y hy => by cases hy⟩
  | succ m ih =>
    by_cases hi : i = m + 1
    · subst hi
      exact ⟨[], by simp, fun y hy => by cases hy⟩
    · obtain ⟨rest, e, hr⟩ := ih (by omega)
      have es : dueUp L now (m + 1) = dueUp L now m ++ (if dueB (L.getD m Z) now = true then [(m : Int)] else []) := by
        unfold dueUp
        rw [List.range_succ, List.filterMap_append]
        cases hd : dueB (L.getD m Z) now <;> simp only [List.filterMap_cons, List.filterMap_nil, hd] <;> rfl
      refine ⟨rest ++ (if dueB (L.getD m Z) now = true then [(m : Int)] else []), by rw [es, e, List.append_assoc], fun y hy => ?_⟩
      rcases List.mem_append.1 hy with hy | hy
      · exact hr y hy
      · split at hy
        · rw [List.mem_singleton.1 hy]; omega
        · cases hy
theorem due_here (L : List Outs) (now : Int) (i m : Nat) (him : i < m) (x : Outs) (hx : L[i]? = some x) (hd : dueB x now = true) :
    (dueUp L now i).length < (dueUp L now m).length ∧ (dueUp L now m)[(dueUp L now i).length]? = some (i : Int) ∧ (dueUp L now (i + 1)).length = (dueUp L now i).length + 1 := by
  obtain ⟨rest, e, _⟩ := dueUp_split L now (i + 1) m him
  rw [dueUp_yes L now i x hx hd] at e ⊢
  have e2 : (dueUp L now m)[(dueUp L now i).length]? = some (i : Int) := by
    rw [e, List.append_assoc, List.getElem?_append_right (Nat.le_refl _), Nat.sub_self]; rfl
  exact ⟨(List.getElem?_eq_some_iff.1 e2).1, e2, by simp⟩
theorem due_away (L : List Outs) (now : Int) (i m : Nat) (him : i < m) (x : Outs) (hx : L[i]? = some x) (hd : dueB x now = false) :
    (∀ y, (dueUp L now m)[(dueUp L now i).length]? = some y → y ≠ (i : Int)) ∧ (dueUp L now (i + 1)).length = (dueUp L now i).length := by
  obtain ⟨rest, e, hr⟩ := dueUp_split L now (i + 1) m him
  rw [dueUp_no L now i x hx hd] at e ⊢
  refine ⟨fun y hy => ?_, rfl⟩
  rw [e, List.getElem?_append_right (Nat.le_refl _), Nat.sub_self] at hy
  have := hr y (List.mem_of_getElem? hy)
  omega
theorem send_live (A : Option Addr) (c k n : Nat) (xs : List Outs) (hn : xs.length = n) (x : Outs) (now : Int) (w : World) (h : dO.At w A c xs) (hb : n * 40 ≤ 140737488355328) (hx : xs[k]? = some x) (ht : 0 ≤ x.t) (hs : sendIs x now = true) :
    Calls Try.prog 12 #[.slice A n c, .int .i64 k, .int .i64 now] w (IsS w (xs.set k (sendX x now)) n ⟨k, x.v, x.p⟩ true 0) := by
  have q := send_any A c k n xs hn x now w h hb hx ht
  have hd : dueB x now = true := by unfold sendIs at hs; simp at hs; exact hs.1
  have e1 : sendM k x now = ⟨k, x.v, x.p⟩ := by unfold sendM; rw [if_pos hs]
  have e2 : sendE x now = 0 := by unfold sendE; rw [if_pos hd]
  rw [hs, e1, e2] at q
  exact q
theorem send_dead (A : Option Addr) (c k n : Nat) (xs : List Outs) (hn : xs.length = n) (x : Outs) (now : Int) (w : World) (h : dO.At w A c xs) (hb : n * 40 ≤ 140737488355328) (hx : xs[k]? = some x) (ht : 0 ≤ x.t) (hd : dueB x now = true) (hs : sendIs x now = false) :
    Calls Try.prog 12 #[.slice A n c, .int .i64 k, .int .i64 now] w (IsS w (xs.set k (sendX x now)) n ⟨0, 0, 0⟩ false 0) := by
  have q := send_any A c k n xs hn x now w h hb hx ht
  have e1 : sendM k x now = ⟨0, 0, 0⟩ := by unfold sendM; rw [hs]; rfl
  have e2 : sendE x now = 0 := by unfold sendE; rw [if_pos hd]
  rw [hs, e1, e2] at q
  exact q
theorem send_no (A : Option Addr) (c k n : Nat) (xs : List Outs) (hn : xs.length = n) (x : Outs) (now : Int) (w : World) (h : dO.At w A c xs) (hb : n * 40 ≤ 140737488355328) (hx : xs[k]? = some x) (ht : 0 ≤ x.t) (hd : dueB x now = false) :
    Calls Try.prog 12 #[.slice A n c, .int .i64 k, .int .i64 now] w (IsS w xs n ⟨0, 0, 0⟩ false 1) := by
  have q := send_any A c k n xs hn x now w h hb hx ht
  have e0 : sendIs x now = false := by unfold sendIs; rw [hd]; rfl
  have e1 : sendM k x now = ⟨0, 0, 0⟩ := by unfold sendM; rw [e0]; rfl
  have e2 : sendE x now = 1 := by unfold sendE; rw [hd]; rfl
  have e3 : sendX x now = x := by unfold sendX; rw [hd]; rfl
  rw [e0, e1, e2, e3, set_same hx] at q
  exact q

set_option maxRecDepth 100000 in
set_option maxHeartbeats 4000000 in
theorem due_law (A : Option Addr) (c : Nat) (rs : List Raw) (now sku price : Int) (w : World) (h : dR.At w A c rs) (hr : ∀ r ∈ rs, R64 r) (b1 : I64 now) (b2 : I64 sku) (b3 : I64 price) :
    Calls Try.prog 3 #[.slice A rs.length c, .int .i64 now, .int .i64 sku, .int .i64 price] w fun e w' => e = .returned (.bool true) ∧ Below w.heap.size w w' := by
  have H := Lib.hid h
  have HR := Lib.hid hr
  have P1 : Pick now 120 (pickI now 120) := ⟨b1, by omega, rfl⟩
  have P2 : Pick sku 4 (pickI sku 4) := ⟨b2, by omega, rfl⟩
  have P3 : Pick price 900 (pickI price 900) := ⟨b3, by omega, rfl⟩
  have d1 := pick_bd now 120 (by omega)
  have d2 := pick_bd sku 4 (by omega)
  have d3 := pick_bd price 900 (by omega)
  generalize pickI now 120 = t at P1 d1
  generalize pickI sku 4 = y2 at P2 d2
  generalize pickI price 900 = y3 at P3 d3
  obtain ⟨s, rfl⟩ : ∃ s : Nat, y2 = s := ⟨y2.toNat, by omega⟩
  have hs4 : s < 4 := by omega
  clear h hr b1 b2 b3
  go_enter Try.func3, Try.ntmps3
  go_wp2_with fail
  refine (awake_any _).mono ?_
  rintro e w1 ⟨rfl, b1⟩
  have B1 := Lib.hid b1
  clear b1
  go_wp2_with fail
  refine (box_any _ _ _ _ (H.out.below B1.out) HR.out).mono ?_
  rintro e w2 ⟨A2, c2, L, rfl, o2, g2, b2⟩
  have O2 := Lib.hid o2
  have G2 := Lib.hid g2
  have B2 := Lib.hid (below_step B1.out b2)
  clear o2 g2 b2
  go_wp2_with fail
  refine (pick_of _ P1).mono ?_
  rintro e w' ⟨rfl, rfl⟩
  go_wp2_with fail
  refine (dueL_any A2 c2 4 L G2.out.1 t _ O2.out.at_ (by omega)).mono ?_
  rintro e w3 ⟨A3, c3, rfl, o3, b3⟩
  obtain ⟨D, hD⟩ : ∃ D, dueUp L t 4 = D := ⟨_, rfl⟩
  rw [hD] at o3 ⊢
  have HD := Lib.hid hD
  have O3 := Lib.hid o3
  have T2 := Lib.hid (O2.out.at_.below b3)
  have B3 := Lib.hid (below_step B2.out b3)
  have l3 := o3.at_.le
  have l4 := o3.at_.max
  clear o3 b3 hD
  go_wp2_with fail
  go_loopw [13, 14] (fun kv iv wr => ∃ (i kn : Nat), i ≤ 4 ∧ iv = .int .i64 i ∧ kv = .int .i64 kn ∧ kn ≤ D.length ∧ Hid (kn = (dueUp L t i).length) ∧ Hid (dO.At wr A2 c2 L) ∧ Hid (dI.At wr A3 c3 D) ∧ Hid (Below w.heap.size w wr)) (fun _ iv _ => 4 - (intOf iv).toNat)
  case atStart => exact ⟨0, 0, by omega, rfl, rfl, Nat.zero_le _, rfl, T2.out, O3.out.at_, B3.out⟩
  case round =>
    obtain ⟨i, kn, hi4, rfl, rfl, hkn, HK, HL, HDD, HB⟩ := hrel
    by_cases hlt : i < 4
    · have hx : L[i]? = some (L[i]'(by have := G2.out.1; omega)) := List.getElem?_eq_getElem _
      have hF := G2.out.2 _ (List.getElem_mem (l := L) (n := i) (by have := G2.out.1; omega))
      generalize L[i]'(by have := G2.out.1; omega) = x at hx hF
      have HX := Lib.hid hx
      have HF := Lib.hid hF
      clear hx hF
      cases hd : dueB x t with
      | true =>
        obtain ⟨k1, k2, k3⟩ := due_here L t i 4 hlt x HX.out hd
        rw [HD.out, ← HK.out] at k1 k2
        rw [← HK.out] at k3
        obtain ⟨bD, oD, rfl, hbD, cD⟩ := at_getI HDD.out kn _ k2
        have K3 := Lib.hid k3
        clear k2 k3
        cases hs : sendIs x t with
        | true =>
          have C := Lib.hid (send_live A2 c2 i 4 L G2.out.1 x t wr HL.out (by omega) HX.out HF.out.2.1.1 hs)
          obtain ⟨bA, oA, rfl, hbA, a0, a1, _, _, _⟩ := at_getO HL.out i x HX.out
          clear hs hd
          go_wp2_with (go_at_call 12; refine C.out.mono ?_; rintro e w5 ⟨A5, c5, rfl, o5, b5⟩; have e0 := below_cell b5 a0; have e1 := below_cell b5 a1; have cD' := below_cell b5 cD; have hz := b5.size; have hn1 : bD ≠ w5.heap.size := (by omega); have hn3 : bD < w5.heap.size := (by omega); have hn2 : bA ≠ w5.heap.size := (by omega); have hn4 : bA < w5.heap.size := (by omega); have B5 := Lib.hid b5; clear o5 b5)
          go_quiet (fail)
          go_wp2
          refine ⟨⟨i + 1, kn + 1, by omega, by go_num, by go_num, by omega, Lib.hid K3.out.symm, ((HL.out.below B5.out).below (below_alloc (Below.refl _ _) _)).drewN nq, ((HDD.out.below B5.out).below (below_alloc (Below.refl _ _) _)).drewN nq, below_drewN (below_alloc (below_step HB.out B5.out) _) nq⟩, ?_⟩
          simp [intOf]; omega
        | false =>
          have C := Lib.hid (send_dead A2 c2 i 4 L G2.out.1 x t wr HL.out (by omega) HX.out HF.out.2.1.1 hd hs)
          clear hs hd
          go_wp2_with (go_at_call 12; refine C.out.mono ?_; rintro e w5 ⟨A5, c5, rfl, o5, b5⟩; have cD' := below_cell b5 cD; have hz := b5.size; have hn1 : bD ≠ w5.heap.size := (by omega); have hn3 : bD < w5.heap.size := (by omega); have B5 := Lib.hid b5; clear o5 b5)
          go_quiet (fail)
          go_wp2
          refine ⟨⟨i + 1, kn + 1, by omega, by go_num, by go_num, by omega, Lib.hid K3.out.symm, ((HL.out.below B5.out).below (below_alloc (Below.refl _ _) _)).drewN nq, ((HDD.out.below B5.out).below (below_alloc (Below.refl _ _) _)).drewN nq, below_drewN (below_alloc (below_step HB.out B5.out) _) nq⟩, ?_⟩
          simp [intOf]; omega
      | false =>
        obtain ⟨k2, k3⟩ := due_away L t i 4 hlt x HX.out hd
        rw [HD.out, ← HK.out] at k2
        rw [← HK.out] at k3
        have K2 := Lib.hid k2
        have K3 := Lib.hid k3
        clear k2 k3
        have C := Lib.hid (send_no A2 c2 i 4 L G2.out.1 x t wr HL.out (by omega) HX.out HF.out.2.1.1 hd)
        clear hd
        by_cases hkl : kn < D.length
        · have hy : D[kn]? = some D[kn] := List.getElem?_eq_getElem hkl
          have hne := K2.out _ hy
          obtain ⟨bD, oD, rfl, hbD, cD⟩ := at_getI HDD.out kn _ hy
          generalize D[kn] = y at hy hne cD
          have g1 : (y == (i : Int)) = false := by simpa using hne
          clear hy hne
          go_wp2_with (go_at_call 12; refine C.out.mono ?_; rintro e w5 ⟨A5, c5, rfl, o5, b5⟩; have cD' := below_cell b5 cD; have hz := b5.size; have hn1 : bD ≠ w5.heap.size := (by omega); have hn3 : bD < w5.heap.size := (by omega); have B5 := Lib.hid b5; clear o5 b5)
          go_quiet (fail)
          go_wp2
          refine ⟨⟨i + 1, kn, by omega, by go_num, rfl, by omega, Lib.hid K3.out.symm, ((HL.out.below B5.out).below (below_alloc (Below.refl _ _) _)).drewN nq, ((HDD.out.below B5.out).below (below_alloc (Below.refl _ _) _)).drewN nq, below_drewN (below_alloc (below_step HB.out B5.out) _) nq⟩, ?_⟩
          simp [intOf]; omega
        · have hkl' : D.length ≤ kn := by omega
          clear hkl
          go_wp2_with (go_at_call 12; refine C.out.mono ?_; rintro e w5 ⟨A5, c5, rfl, o5, b5⟩; have hz := b5.size; have B5 := Lib.hid b5; clear o5 b5)
          go_quiet (fail)
          go_wp2
          refine ⟨⟨i + 1, kn, by omega, by go_num, rfl, by omega, Lib.hid K3.out.symm, ((HL.out.below B5.out).below (below_alloc (Below.refl _ _) _)).drewN nq, ((HDD.out.below B5.out).below (below_alloc (Below.refl _ _) _)).drewN nq, below_drewN (below_alloc (below_step HB.out B5.out) _) nq⟩, ?_⟩
          simp [intOf]; omega
    · obtain rfl : i = 4 := by omega
      have hkD : kn = D.length := by rw [HK.out, HD.out]
      subst hkD
      have hx : L[s]? = some (L[s]'(by have := G2.out.1; omega)) := List.getElem?_eq_getElem _
      have hF := G2.out.2 _ (List.getElem_mem (l := L) (n := s) (by have := G2.out.1; omega))
      generalize L[s]'(by have := G2.out.1; omega) = z at hx hF
      have hv1 := hF.1.1
      have hv2 := hF.1.2
      have hwv : IntKind.i64.wrap (z.v + 1) = z.v + 1 := IntWalk.i64_in _ (by omega)
      have hwp : IntKind.i64.wrap (1 + y3) = 1 + y3 := IntWalk.i64_in _ (by omega)
      have C1 := Lib.hid (fun W hW => intend_any A2 c2 s 4 L G2.out.1 z (1 + y3) t W hW (by omega) hx (by omega) (by omega) hv1 (by omega))
      have hdue : dueB (intendO z (1 + y3) t) t = true := decide_eq_true ⟨rfl, Int.le_refl _⟩
      have hIs : sendIs (intendO z (1 + y3) t) t = true := by unfold sendIs; rw [hdue]; rfl
      have hlen : (L.set s (intendO z (1 + y3) t)).length = 4 := by rw [List.length_set]; exact G2.out.1
      have hget : (L.set s (intendO z (1 + y3) t))[s]? = some (intendO z (1 + y3) t) := List.getElem?_set_self (by have := G2.out.1; omega)
      have C2 : Hid (∀ A c W, dO.At W A c (L.set s (intendO z (1 + y3) t)) → Calls Try.prog 12 #[.slice A 4 c, .int .i64 s, .int .i64 t] W (IsS W ((L.set s (intendO z (1 + y3) t)).set s (sendX (intendO z (1 + y3) t) t)) 4 ⟨s, z.v + 1, 1 + y3⟩ true 0)) :=
        Lib.hid (fun A c W hW => send_live A c s 4 _ hlen _ t W hW (by omega) hget (Int.le_refl _) hIs)
      generalize (L.set s (intendO z (1 + y3) t)).set s (sendX (intendO z (1 + y3) t) t) = L3 at C2
      generalize L.set s (intendO z (1 + y3) t) = L2 at C1 C2
      clear hdue hIs hlen hget
      obtain ⟨bA, oA, rfl, hbA, a0, _, _, _, _⟩ := at_getO HL.out s z hx
      have HXs := Lib.hid hx
      clear hx hF
      go_wp2_with fail
      refine (pick_of _ P2).mono ?_
      rintro e w' ⟨rfl, rfl⟩
      go_wp2_with fail
      refine (pick_of _ P3).mono ?_
      rintro e w' ⟨rfl, rfl⟩
      go_wp2_with fail
      refine (C1.out _ HL.out).mono ?_
      rintro e w5 ⟨A5, c5, rfl, o5, b5⟩
      have e0 := below_cell b5 a0
      have O5 := Lib.hid o5
      have B5 := Lib.hid b5
      have hz5 := b5.size
      clear o5 b5
      go_wp2_with fail
      refine (C2.out _ _ _ O5.out.at_).mono ?_
      rintro e w6 ⟨A6, c6, rfl, o6, b6⟩
      have e1 := below_cell b6 e0
      have B6 := Lib.hid b6
      have hz6 := b6.size
      have hn2 : bA ≠ w6.heap.size := by omega
      have hn4 : bA < w6.heap.size := by omega
      clear o6 b6 a0 e0
      go_wp2_with fail
      go_quiet ((go_at_call 10; exact Calls.quiet_of_same ((pick_of _ P3).mono fun _ _ h => ⟨h.1, h.2.symm⟩)))
      go_wp2
      go_ret
      exact ⟨rfl, below_drewN (below_alloc (below_step (below_step HB.out B5.out) B6.out) _) _⟩
end Go.Proofs.Ytgeocadpdpjmjaa.Out
