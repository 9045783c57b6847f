/- OutDies: its walk. -/
import Derived.Test.YtgeocadpdpjmjaaOutK
namespace Go.Proofs.Ytgeocadpdpjmjaa.Out
open Go.RowKit Go.Proofs.Ytgeocadpdpjmjaa.Mem

theorem go_live (A : Option Addr) (c s : Nat) (L : List Outs) (hl : L.length = 4) (V p now : Int) (t0 : Nat) (hx : L[s]? = some ⟨V, p, t0, now, 1⟩) (ht : t0 ≤ 4) (h0 : 0 ≤ now) (h1 : now ≤ 2000) (wt : Int) (hw : waitI t0 = wt) (hw0 : 0 ≤ wt) (hw1 : wt ≤ 64) (w : World) (h : dO.At w A c L) :
    Calls Try.prog 12 #[.slice A 4 c, .int .i64 s, .int .i64 now] w (IsS w (L.set s ⟨V, p, (t0 : Int) + 1, now + wt, 1⟩) 4 ⟨s, V, p⟩ true 0) := by
  have hd : dueB ⟨V, p, t0, now, 1⟩ now = true := decide_eq_true ⟨rfl, by rw [tick_small now h0 (by omega)]; exact Int.le_refl _⟩
  have hs : sendIs ⟨V, p, t0, now, 1⟩ now = true := by unfold sendIs; rw [hd]; simp; omega
  have q := send_live A c s 4 L hl ⟨V, p, t0, now, 1⟩ now w h (by omega) hx (by show (0 : Int) ≤ t0; omega) hs
  have e : sendX ⟨V, p, t0, now, 1⟩ now = ⟨V, p, (t0 : Int) + 1, now + wt, 1⟩ := by
    unfold sendX; rw [if_pos hd]; unfold sendO
    rw [if_neg (by show ¬ ((5 : Int) ≤ t0); omega), ← later_small now wt h0 h1 hw0 hw1, ← hw]
  rw [e] at q
  exact q
theorem go_dead (A : Option Addr) (c s : Nat) (L : List Outs) (hl : L.length = 4) (V p now : Int) (hx : L[s]? = some ⟨V, p, 5, now, 1⟩) (h0 : 0 ≤ now) (h1 : now ≤ 2000) (w : World) (h : dO.At w A c L) :
    Calls Try.prog 12 #[.slice A 4 c, .int .i64 s, .int .i64 now] w (IsS w (L.set s ⟨V, p, 5, now, 3⟩) 4 ⟨0, 0, 0⟩ false 0) := by
  have hd : dueB ⟨V, p, 5, now, 1⟩ now = true := decide_eq_true ⟨rfl, by rw [tick_small now h0 (by omega)]; exact Int.le_refl _⟩
  have hs : sendIs ⟨V, p, 5, now, 1⟩ now = false := by unfold sendIs; rw [hd]; rfl
  have q := send_dead A c s 4 L hl ⟨V, p, 5, now, 1⟩ now w h (by omega) hx (by show (0 : Int) ≤ 5; omega) hd hs
  have e : sendX ⟨V, p, 5, now, 1⟩ now = ⟨V, p, 5, now, 3⟩ := by
    unfold sendX; rw [if_pos hd]; unfold sendO
    rw [if_pos (by show (5 : Int) ≤ 5; omega)]
  rw [e] at q
  exact q
theorem go_no (A : Option Addr) (c s : Nat) (L : List Outs) (hl : L.length = 4) (x : Outs) (hx : L[s]? = some x) (ht : 0 ≤ x.t) (now : Int) (h0 : 0 ≤ now) (h1 : now ≤ 2000) (hn : ¬ (x.s = 1 ∧ x.n ≤ now)) (w : World) (h : dO.At w A c L) :
    Calls Try.prog 12 #[.slice A 4 c, .int .i64 s, .int .i64 now] w (IsS w L 4 ⟨0, 0, 0⟩ false 1) := by
  have hd : dueB x now = false := decide_eq_false (by rw [tick_small now h0 (by omega)]; exact hn)
  exact send_no A c s 4 L hl x now w h (by omega) hx ht hd

set_option maxRecDepth 100000 in
set_option maxHeartbeats 4000000 in
theorem dies_law (A : Option Addr) (c : Nat) (rs : List Raw) (sku price : Int) (w : World) (h : dR.At w A c rs) (hr : ∀ r ∈ rs, R64 r) (b2 : I64 sku) (b3 : I64 price) :
    Calls Try.prog 5 #[.slice A rs.length c, .int .i64 sku, .int .i64 price] w fun e w' => e = .returned (.bool true) ∧ Below w.heap.size w w' := by
  have H := Lib.hid h
  have HR := Lib.hid hr
  have P2 : Pick sku 4 (pickI sku 4) := ⟨b2, by omega, rfl⟩
  have P3 : Pick price 900 (pickI price 900) := ⟨b3, by omega, rfl⟩
  have d2 := pick_bd sku 4 (by omega)
  have d3 := pick_bd price 900 (by omega)
  generalize pickI sku 4 = y2 at P2 d2
  generalize pickI price 900 = y3 at P3 d3
  obtain ⟨s, rfl⟩ : ∃ s : Nat, y2 = s := ⟨y2.toNat, by omega⟩
  have hs4 : s < 4 := by omega
  have hwp : IntKind.i64.wrap (1 + y3) = 1 + y3 := IntWalk.i64_in _ (by omega)
  clear h hr b2 b3
  go_enter Try.func5, Try.ntmps5
  go_wp2_with fail
  refine (awake_any _).mono ?_
  rintro e w1 ⟨rfl, b1⟩
  have B1 := Lib.hid b1
  clear b1
  go_wp2_with fail
  refine (pick_of _ P2).mono ?_
  rintro e w' ⟨rfl, rfl⟩
  go_wp2_with fail
  refine (box_any _ _ _ _ (H.out.below B1.out) HR.out).mono ?_
  rintro e w2 ⟨A2, c2, L, rfl, o2, g2, b2⟩
  have O2 := Lib.hid o2
  have G2 := Lib.hid g2
  have B2 := Lib.hid (below_step B1.out b2)
  clear o2 g2 b2
  have hx : L[s]? = some (L[s]'(by have := G2.out.1; omega)) := List.getElem?_eq_getElem _
  have hF := G2.out.2 _ (List.getElem_mem (l := L) (n := s) (by have := G2.out.1; omega))
  generalize L[s]'(by have := G2.out.1; omega) = z at hx hF
  have HX := Lib.hid hx
  have HF := Lib.hid hF
  clear hx hF
  go_wp2_with fail
  refine (pick_of _ P3).mono ?_
  rintro e w' ⟨rfl, rfl⟩
  go_wp2_with fail
  refine (intend_any A2 c2 s 4 L G2.out.1 z (1 + y3) 100 _ O2.out.at_ (by omega) HX.out (by omega) (by omega) HF.out.1.1 (by have := HF.out.1.2; omega)).mono ?_
  rintro e w3 ⟨A3, c3, rfl, o3, b3⟩
  have O3 := Lib.hid o3
  have B3 := Lib.hid (below_step B2.out b3)
  have HL0 : Hid ((L.set s (intendO z (1 + y3) 100)).length = 4) := Lib.hid (by rw [List.length_set]; exact G2.out.1)
  have HX0 : Hid ((L.set s (intendO z (1 + y3) 100))[s]? = some ⟨z.v + 1, 1 + y3, (0 : Nat), 100, 1⟩) := Lib.hid (List.getElem?_set_self (by have := G2.out.1; omega))
  generalize L.set s (intendO z (1 + y3) 100) = L0 at O3 HL0 HX0
  clear o3 b3 hwp HX HF O2 G2 P3 P2
  generalize z.v + 1 = V at HX0
  generalize 1 + y3 = p at HX0
  go_wp2_with fail
  go_loopw [9, 11, 12] (fun b nv iv wr => ∃ (i : Nat) (A : Option Addr) (c : Nat) (L : List Outs) (now : Int), i ≤ 5 ∧ iv = .int .i64 i ∧ nv = .int .i64 now ∧ b = .slice A 4 c ∧ Hid (now = 98 + ((2 ^ (i + 1) : Nat) : Int)) ∧ Hid (L.length = 4) ∧ Hid (L[s]? = some ⟨V, p, i, now, 1⟩) ∧ Hid (dO.At wr A c L) ∧ Hid (Below w.heap.size w wr)) (fun _ _ iv _ => 5 - (intOf iv).toNat)
  case atStart => exact ⟨0, A3, c3, L0, 100, by omega, rfl, rfl, rfl, rfl, HL0, HX0, O3.out.at_, B3.out⟩
  case round =>
    obtain ⟨i, A, c, L, now, hi5, rfl, rfl, rfl, HN, HL, HX, HA, HB⟩ := hrel
    have hc : i = 0 ∨ i = 1 ∨ i = 2 ∨ i = 3 ∨ i = 4 ∨ i = 5 := by omega
    clear hi5
    rcases hc with rfl | rfl | rfl | rfl | rfl | rfl
    · obtain rfl : now = 100 := HN.out
      have C : Hid (Calls Try.prog 12 #[.slice A 4 c, .int .i64 s, .int .i64 100] wr (IsS wr (L.set s ⟨V, p, 1, 102, 1⟩) 4 ⟨s, V, p⟩ true 0)) := Lib.hid (go_live A c s L HL.out V p 100 0 HX.out (by omega) (by omega) (by omega) 2 rfl (by omega) (by omega) wr HA.out)
      have hlen : (L.set s ⟨V, p, 1, 102, 1⟩).length = 4 := by rw [List.length_set]; exact HL.out
      have hget : (L.set s (⟨V, p, 1, 102, 1⟩ : Outs))[s]? = some ⟨V, p, 1, 102, 1⟩ := List.getElem?_set_self (by have := HL.out; omega)
      have HL' := Lib.hid hlen
      have HX' := Lib.hid hget
      clear hlen hget
      generalize L.set s ⟨V, p, 1, 102, 1⟩ = L1 at C HL' HX'
      have C2 := Lib.hid (fun A c W hW => go_no A c s L1 HL'.out ⟨V, p, 1, 102, 1⟩ HX'.out (by show (0 : Int) ≤ 1; omega) 101 (by omega) (by omega) (by intro h; have := h.2; simp at this) W hW)
      have hws : IntKind.i64.wrap 2 = 2 := by rw [IntKind.wrap_i64]; omega
      have hws2 : IntKind.i64.wrap 102 = 102 := by rw [IntKind.wrap_i64]; omega
      go_wp2_with fail
      refine C.out.mono ?_
      rintro e w5 ⟨A5, c5, rfl, o5, b5⟩
      obtain ⟨g5, rfl, hge5, hlt5, r0, r1, r2, r3, r4⟩ := own_getO o5 s _ HX'.out
      have O5 := Lib.hid o5
      have B5 := Lib.hid b5
      have n1 : g5 ≠ w5.heap.size := by omega
      clear o5 b5
      go_wp2_with fail
      go_quiet (fail)
      go_wp2_with fail
      refine (C2.out _ _ _ ((O5.out.at_.below (below_alloc (Below.refl _ _) _)).drewN nq)).mono ?_
      rintro e w6 ⟨A6, c6, rfl, o6, b6⟩
      have B6 : Hid (Below w5.heap.size w5 w6) := below_step (below_drewN (below_alloc (Below.refl _ _) _) nq) b6
      have q3 := below_cell B6.out r3
      have z6 := B6.out.size
      have n2 : g5 ≠ w6.heap.size := by omega
      have n3 : g5 < w6.heap.size := by omega
      clear o6 b6 r0 r1 r2 r3 r4 hws hws2
      go_wp2_with fail
      refine ⟨⟨1, _, c5, L1, 102, by omega, by go_num, rfl, rfl, rfl, HL', HX', (O5.out.at_.below B6.out).below (below_alloc (Below.refl _ _) _), below_alloc (below_step (below_step HB.out B5.out) B6.out) _⟩, ?_⟩
      simp [intOf]
    · obtain rfl : now = 102 := HN.out
      have C : Hid (Calls Try.prog 12 #[.slice A 4 c, .int .i64 s, .int .i64 102] wr (IsS wr (L.set s ⟨V, p, 2, 106, 1⟩) 4 ⟨s, V, p⟩ true 0)) := Lib.hid (go_live A c s L HL.out V p 102 1 HX.out (by omega) (by omega) (by omega) 4 rfl (by omega) (by omega) wr HA.out)
      have hlen : (L.set s ⟨V, p, 2, 106, 1⟩).length = 4 := by rw [List.length_set]; exact HL.out
      have hget : (L.set s (⟨V, p, 2, 106, 1⟩ : Outs))[s]? = some ⟨V, p, 2, 106, 1⟩ := List.getElem?_set_self (by have := HL.out; omega)
      have HL' := Lib.hid hlen
      have HX' := Lib.hid hget
      clear hlen hget
      generalize L.set s ⟨V, p, 2, 106, 1⟩ = L1 at C HL' HX'
      have C2 := Lib.hid (fun A c W hW => go_no A c s L1 HL'.out ⟨V, p, 2, 106, 1⟩ HX'.out (by show (0 : Int) ≤ 2; omega) 105 (by omega) (by omega) (by intro h; have := h.2; simp at this) W hW)
      have hws : IntKind.i64.wrap 4 = 4 := by rw [IntKind.wrap_i64]; omega
      have hws2 : IntKind.i64.wrap 106 = 106 := by rw [IntKind.wrap_i64]; omega
      go_wp2_with fail
      refine C.out.mono ?_
      rintro e w5 ⟨A5, c5, rfl, o5, b5⟩
      obtain ⟨g5, rfl, hge5, hlt5, r0, r1, r2, r3, r4⟩ := own_getO o5 s _ HX'.out
      have O5 := Lib.hid o5
      have B5 := Lib.hid b5
      have n1 : g5 ≠ w5.heap.size := by omega
      clear o5 b5
      go_wp2_with fail
      go_quiet (fail)
      go_wp2_with fail
      refine (C2.out _ _ _ ((O5.out.at_.below (below_alloc (Below.refl _ _) _)).drewN nq)).mono ?_
      rintro e w6 ⟨A6, c6, rfl, o6, b6⟩
      have B6 : Hid (Below w5.heap.size w5 w6) := below_step (below_drewN (below_alloc (Below.refl _ _) _) nq) b6
      have q3 := below_cell B6.out r3
      have z6 := B6.out.size
      have n2 : g5 ≠ w6.heap.size := by omega
      have n3 : g5 < w6.heap.size := by omega
      clear o6 b6 r0 r1 r2 r3 r4 hws hws2
      go_wp2_with fail
      refine ⟨⟨2, _, c5, L1, 106, by omega, by go_num, rfl, rfl, rfl, HL', HX', (O5.out.at_.below B6.out).below (below_alloc (Below.refl _ _) _), below_alloc (below_step (below_step HB.out B5.out) B6.out) _⟩, ?_⟩
      simp [intOf]
    · obtain rfl : now = 106 := HN.out
      have C : Hid (Calls Try.prog 12 #[.slice A 4 c, .int .i64 s, .int .i64 106] wr (IsS wr (L.set s ⟨V, p, 3, 114, 1⟩) 4 ⟨s, V, p⟩ true 0)) := Lib.hid (go_live A c s L HL.out V p 106 2 HX.out (by omega) (by omega) (by omega) 8 rfl (by omega) (by omega) wr HA.out)
      have hlen : (L.set s ⟨V, p, 3, 114, 1⟩).length = 4 := by rw [List.length_set]; exact HL.out
      have hget : (L.set s (⟨V, p, 3, 114, 1⟩ : Outs))[s]? = some ⟨V, p, 3, 114, 1⟩ := List.getElem?_set_self (by have := HL.out; omega)
      have HL' := Lib.hid hlen
      have HX' := Lib.hid hget
      clear hlen hget
      generalize L.set s ⟨V, p, 3, 114, 1⟩ = L1 at C HL' HX'
      have C2 := Lib.hid (fun A c W hW => go_no A c s L1 HL'.out ⟨V, p, 3, 114, 1⟩ HX'.out (by show (0 : Int) ≤ 3; omega) 113 (by omega) (by omega) (by intro h; have := h.2; simp at this) W hW)
      have hws : IntKind.i64.wrap 8 = 8 := by rw [IntKind.wrap_i64]; omega
      have hws2 : IntKind.i64.wrap 114 = 114 := by rw [IntKind.wrap_i64]; omega
      go_wp2_with fail
      refine C.out.mono ?_
      rintro e w5 ⟨A5, c5, rfl, o5, b5⟩
      obtain ⟨g5, rfl, hge5, hlt5, r0, r1, r2, r3, r4⟩ := own_getO o5 s _ HX'.out
      have O5 := Lib.hid o5
      have B5 := Lib.hid b5
      have n1 : g5 ≠ w5.heap.size := by omega
      clear o5 b5
      go_wp2_with fail
      go_quiet (fail)
      go_wp2_with fail
      refine (C2.out _ _ _ ((O5.out.at_.below (below_alloc (Below.refl _ _) _)).drewN nq)).mono ?_
      rintro e w6 ⟨A6, c6, rfl, o6, b6⟩
      have B6 : Hid (Below w5.heap.size w5 w6) := below_step (below_drewN (below_alloc (Below.refl _ _) _) nq) b6
      have q3 := below_cell B6.out r3
      have z6 := B6.out.size
      have n2 : g5 ≠ w6.heap.size := by omega
      have n3 : g5 < w6.heap.size := by omega
      clear o6 b6 r0 r1 r2 r3 r4 hws hws2
      go_wp2_with fail
      refine ⟨⟨3, _, c5, L1, 114, by omega, by go_num, rfl, rfl, rfl, HL', HX', (O5.out.at_.below B6.out).below (below_alloc (Below.refl _ _) _), below_alloc (below_step (below_step HB.out B5.out) B6.out) _⟩, ?_⟩
      simp [intOf]
    · obtain rfl : now = 114 := HN.out
      have C : Hid (Calls Try.prog 12 #[.slice A 4 c, .int .i64 s, .int .i64 114] wr (IsS wr (L.set s ⟨V, p, 4, 130, 1⟩) 4 ⟨s, V, p⟩ true 0)) := Lib.hid (go_live A c s L HL.out V p 114 3 HX.out (by omega) (by omega) (by omega) 16 rfl (by omega) (by omega) wr HA.out)
      have hlen : (L.set s ⟨V, p, 4, 130, 1⟩).length = 4 := by rw [List.length_set]; exact HL.out
      have hget : (L.set s (⟨V, p, 4, 130, 1⟩ : Outs))[s]? = some ⟨V, p, 4, 130, 1⟩ := List.getElem?_set_self (by have := HL.out; omega)
      have HL' := Lib.hid hlen
      have HX' := Lib.hid hget
      clear hlen hget
      generalize L.set s ⟨V, p, 4, 130, 1⟩ = L1 at C HL' HX'
      have C2 := Lib.hid (fun A c W hW => go_no A c s L1 HL'.out ⟨V, p, 4, 130, 1⟩ HX'.out (by show (0 : Int) ≤ 4; omega) 129 (by omega) (by omega) (by intro h; have := h.2; simp at this) W hW)
      have hws : IntKind.i64.wrap 16 = 16 := by rw [IntKind.wrap_i64]; omega
      have hws2 : IntKind.i64.wrap 130 = 130 := by rw [IntKind.wrap_i64]; omega
      go_wp2_with fail
      refine C.out.mono ?_
      rintro e w5 ⟨A5, c5, rfl, o5, b5⟩
      obtain ⟨g5, rfl, hge5, hlt5, r0, r1, r2, r3, r4⟩ := own_getO o5 s _ HX'.out
      have O5 := Lib.hid o5
      have B5 := Lib.hid b5
      have n1 : g5 ≠ w5.heap.size := by omega
      clear o5 b5
      go_wp2_with fail
      go_quiet (fail)
      go_wp2_with fail
      refine (C2.out _ _ _ ((O5.out.at_.below (below_alloc (Below.refl _ _) _)).drewN nq)).mono ?_
      rintro e w6 ⟨A6, c6, rfl, o6, b6⟩
      have B6 : Hid (Below w5.heap.size w5 w6) := below_step (below_drewN (below_alloc (Below.refl _ _) _) nq) b6
      have q3 := below_cell B6.out r3
      have z6 := B6.out.size
      have n2 : g5 ≠ w6.heap.size := by omega
      have n3 : g5 < w6.heap.size := by omega
      clear o6 b6 r0 r1 r2 r3 r4 hws hws2
      go_wp2_with fail
      refine ⟨⟨4, _, c5, L1, 130, by omega, by go_num, rfl, rfl, rfl, HL', HX', (O5.out.at_.below B6.out).below (below_alloc (Below.refl _ _) _), below_alloc (below_step (below_step HB.out B5.out) B6.out) _⟩, ?_⟩
      simp [intOf]
    · obtain rfl : now = 130 := HN.out
      have C : Hid (Calls Try.prog 12 #[.slice A 4 c, .int .i64 s, .int .i64 130] wr (IsS wr (L.set s ⟨V, p, 5, 162, 1⟩) 4 ⟨s, V, p⟩ true 0)) := Lib.hid (go_live A c s L HL.out V p 130 4 HX.out (by omega) (by omega) (by omega) 32 rfl (by omega) (by omega) wr HA.out)
      have hlen : (L.set s ⟨V, p, 5, 162, 1⟩).length = 4 := by rw [List.length_set]; exact HL.out
      have hget : (L.set s (⟨V, p, 5, 162, 1⟩ : Outs))[s]? = some ⟨V, p, 5, 162, 1⟩ := List.getElem?_set_self (by have := HL.out; omega)
      have HL' := Lib.hid hlen
      have HX' := Lib.hid hget
      clear hlen hget
      generalize L.set s ⟨V, p, 5, 162, 1⟩ = L1 at C HL' HX'
      have C2 := Lib.hid (fun A c W hW => go_no A c s L1 HL'.out ⟨V, p, 5, 162, 1⟩ HX'.out (by show (0 : Int) ≤ 5; omega) 161 (by omega) (by omega) (by intro h; have := h.2; simp at this) W hW)
      have hws : IntKind.i64.wrap 32 = 32 := by rw [IntKind.wrap_i64]; omega
      have hws2 : IntKind.i64.wrap 162 = 162 := by rw [IntKind.wrap_i64]; omega
      go_wp2_with fail
      refine C.out.mono ?_
      rintro e w5 ⟨A5, c5, rfl, o5, b5⟩
      obtain ⟨g5, rfl, hge5, hlt5, r0, r1, r2, r3, r4⟩ := own_getO o5 s _ HX'.out
      have O5 := Lib.hid o5
      have B5 := Lib.hid b5
      have n1 : g5 ≠ w5.heap.size := by omega
      clear o5 b5
      go_wp2_with fail
      go_quiet (fail)
      go_wp2_with fail
      refine (C2.out _ _ _ ((O5.out.at_.below (below_alloc (Below.refl _ _) _)).drewN nq)).mono ?_
      rintro e w6 ⟨A6, c6, rfl, o6, b6⟩
      have B6 : Hid (Below w5.heap.size w5 w6) := below_step (below_drewN (below_alloc (Below.refl _ _) _) nq) b6
      have q3 := below_cell B6.out r3
      have z6 := B6.out.size
      have n2 : g5 ≠ w6.heap.size := by omega
      have n3 : g5 < w6.heap.size := by omega
      clear o6 b6 r0 r1 r2 r3 r4 hws hws2
      go_wp2_with fail
      refine ⟨⟨5, _, c5, L1, 162, by omega, by go_num, rfl, rfl, rfl, HL', HX', (O5.out.at_.below B6.out).below (below_alloc (Below.refl _ _) _), below_alloc (below_step (below_step HB.out B5.out) B6.out) _⟩, ?_⟩
      simp [intOf]
    · obtain rfl : now = 162 := HN.out
      have C := Lib.hid (go_dead A c s L HL.out V p 162 HX.out (by omega) (by omega) wr HA.out)
      have hlen : (L.set s ⟨V, p, 5, 162, 3⟩).length = 4 := by rw [List.length_set]; exact HL.out
      have hget : (L.set s (⟨V, p, 5, 162, 3⟩ : Outs))[s]? = some ⟨V, p, 5, 162, 3⟩ := List.getElem?_set_self (by have := HL.out; omega)
      have HL' := Lib.hid hlen
      have HX' := Lib.hid hget
      clear hlen hget
      generalize L.set s ⟨V, p, 5, 162, 3⟩ = L1 at C HL' HX'
      have C2 := Lib.hid (fun A c W hW => go_no A c s L1 HL'.out ⟨V, p, 5, 162, 3⟩ HX'.out (by show (0 : Int) ≤ 5; omega) 1162 (by omega) (by omega) (by intro h; have := h.1; simp at this) W hW)
      have C3 := Lib.hid (fun A c W hW => rev_any A c s 4 L1 HL'.out ⟨V, p, 5, 162, 3⟩ 162 true rfl W hW (by omega) HX'.out)
      have hlen2 : (L1.set s (if true = true then reviveO ⟨V, p, 5, 162, 3⟩ 162 else ⟨V, p, 5, 162, 3⟩)).length = 4 := by rw [List.length_set]; exact HL'.out
      have hget2 : (L1.set s (if true = true then reviveO ⟨V, p, 5, 162, 3⟩ 162 else ⟨V, p, 5, 162, 3⟩))[s]? = some ⟨V, p, (0 : Nat), 162, 1⟩ := List.getElem?_set_self (by have := HL'.out; omega)
      generalize L1.set s (if true = true then reviveO ⟨V, p, 5, 162, 3⟩ 162 else ⟨V, p, 5, 162, 3⟩) = L2 at C3 hlen2 hget2
      have C4 := Lib.hid (fun A c W hW => go_live A c s L2 hlen2 V p 162 0 hget2 (by omega) (by omega) (by omega) 2 rfl (by omega) (by omega) W hW)
      clear hlen2 hget2
      obtain ⟨bA, oA, rfl, hbA, a0, _, _, _, _⟩ := at_getO HA.out s _ HX.out
      go_wp2_with fail
      refine C.out.mono ?_
      rintro e w5 ⟨A5, c5, rfl, o5, b5⟩
      obtain ⟨g5, rfl, hge5, hlt5, r0, r1, r2, r3, r4⟩ := own_getO o5 s _ HX'.out
      have O5 := Lib.hid o5
      have B5 := Lib.hid b5
      have a1 := below_cell b5 a0
      have hz5 := b5.size
      have n1 : g5 ≠ w5.heap.size := by omega
      clear o5 b5 a0
      go_wp2_with fail
      refine (C2.out _ _ _ (O5.out.at_.below (below_alloc (Below.refl _ _) _))).mono ?_
      rintro e w6 ⟨A6, c6, rfl, o6, b6⟩
      have B6 : Hid (Below w5.heap.size w5 w6) := below_step (below_alloc (Below.refl _ _) _) b6
      clear o6 b6
      go_wp2_with fail
      refine (C3.out _ _ _ ((O5.out.at_.below B6.out).below (below_alloc (Below.refl _ _) _))).mono ?_
      rintro e w7 ⟨A7, c7, rfl, o7, b7⟩
      have O7 := Lib.hid o7
      have B7 : Hid (Below w6.heap.size w6 w7) := below_step (below_alloc (Below.refl _ _) _) b7
      clear o7 b7
      go_wp2_with fail
      refine (C4.out _ _ _ O7.out.at_).mono ?_
      rintro e w8 ⟨A8, c8, rfl, o8, b8⟩
      have B8 := Lib.hid b8
      clear o8 b8
      have a2 := below_cell B8.out (below_cell B7.out (below_cell B6.out a1))
      have z6 := B6.out.size
      have z7 := B7.out.size
      have z8 := B8.out.size
      have n2 : bA ≠ w8.heap.size := by omega
      have n3 : bA < w8.heap.size := by omega
      clear a1 r0 r1 r2 r3 r4
      go_wp2_with fail
      go_quiet (fail)
      go_wp2
      go_ret
      exact ⟨rfl, below_drewN (below_alloc (below_step (below_step (below_step (below_step HB.out B5.out) B6.out) B7.out) B8.out) _) _⟩
end Go.Proofs.Ytgeocadpdpjmjaa.Out
