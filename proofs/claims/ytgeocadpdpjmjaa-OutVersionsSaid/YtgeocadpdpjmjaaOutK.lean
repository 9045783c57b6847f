/- OutSent: its walk. -/
import Derived.Test.YtgeocadpdpjmjaaOutJ
namespace Go.Proofs.Ytgeocadpdpjmjaa.Out
open Go.RowKit Go.Proofs.Ytgeocadpdpjmjaa.Mem

def z1 : Array Value := #[.int .i64 0, .int .i64 0, .int .i64 0, .int .i64 0, .int .i64 0]
theorem mk1 (w : World) : (Instr.makeSlice 24 (.int .i64 1) (.int .i64 1)).run Try.prog w = .ok (.slice (some ⟨w.heap.size, 0, none⟩) 1 1) (w.alloc (.cells #[.int .i64 0, .int .i64 0, .int .i64 0, .int .i64 0, .int .i64 0] 35)) := mkO 1 (by decide) _ (by kernel_rfl) w
theorem litz1 (w : World) : dO.Own 35 (w.alloc (.cells #[.int .i64 0, .int .i64 0, .int .i64 0, .int .i64 0, .int .i64 0] 35)) w.heap.size (some ⟨w.heap.size, 0, none⟩) 1 [Z] :=
  En.Own.lit dO w w.heap.size 35 _ [Z] (Nat.le_refl _) (by decide) rfl
theorem later_small (now b : Int) (h0 : 0 ≤ now) (h1 : now ≤ 2000) (h2 : 0 ≤ b) (h3 : b ≤ 64) : laterI (tickI now) b = now + b := by
  unfold laterI
  rw [tick_small now h0 (by omega), tick_small now h0 (by omega), tick_small b h2 (by omega), if_neg (by omega)]
/-- A sending at one sku, of one version. -/
theorem one_live (A : Option Addr) (c : Nat) (p nx : Int) (t0 : Nat) (now : Int) (w : World) (h : dO.At w A c [⟨1, p, t0, nx, 1⟩]) (h0 : 0 ≤ now) (h1 : now ≤ 2000) (hn : nx ≤ now) (ht : t0 ≤ 4) (wt : Int) (hw : waitI t0 = wt) (hw0 : 0 ≤ wt) (hw1 : wt ≤ 64) :
    Calls Try.prog 12 #[.slice A 1 c, .int .i64 0, .int .i64 now] w (IsS w [⟨1, p, (t0 : Int) + 1, now + wt, 1⟩] 1 ⟨0, 1, p⟩ true 0) := by
  have hd : dueB ⟨1, p, t0, nx, 1⟩ now = true := decide_eq_true ⟨rfl, by rw [tick_small now h0 (by omega)]; exact hn⟩
  have hs : sendIs ⟨1, p, t0, nx, 1⟩ now = true := by unfold sendIs; rw [hd]; simp; omega
  have q := send_live A c 0 1 _ rfl ⟨1, p, t0, nx, 1⟩ now w h (by omega) rfl (by show (0 : Int) ≤ t0; omega) hs
  have e : sendX ⟨1, p, t0, nx, 1⟩ now = ⟨1, p, (t0 : Int) + 1, now + wt, 1⟩ := by
    unfold sendX; rw [if_pos hd]; unfold sendO
    rw [if_neg (by show ¬ ((5 : Int) ≤ t0); omega), ← later_small now wt h0 h1 hw0 hw1, ← hw]
  rw [e] at q
  exact q
theorem one_dead (A : Option Addr) (c : Nat) (p nx : Int) (now : Int) (w : World) (h : dO.At w A c [⟨1, p, 5, nx, 1⟩]) (h0 : 0 ≤ now) (h1 : now ≤ 2000) (hn : nx ≤ now) :
    Calls Try.prog 12 #[.slice A 1 c, .int .i64 0, .int .i64 now] w (IsS w [⟨1, p, 5, nx, 3⟩] 1 ⟨0, 0, 0⟩ false 0) := by
  have hd : dueB ⟨1, p, 5, nx, 1⟩ now = true := decide_eq_true ⟨rfl, by rw [tick_small now h0 (by omega)]; exact hn⟩
  have hs : sendIs ⟨1, p, 5, nx, 1⟩ now = false := by unfold sendIs; rw [hd]; rfl
  have q := send_dead A c 0 1 _ rfl ⟨1, p, 5, nx, 1⟩ now w h (by omega) rfl (by show (0 : Int) ≤ 5; omega) hd hs
  have e : sendX ⟨1, p, 5, nx, 1⟩ now = ⟨1, p, 5, nx, 3⟩ := by
    unfold sendX; rw [if_pos hd]; unfold sendO
    rw [if_pos (by show (5 : Int) ≤ 5; omega)]
  rw [e] at q
  exact q
theorem one_no (A : Option Addr) (c : Nat) (p nx t st : Int) (now : Int) (w : World) (h : dO.At w A c [⟨1, p, t, nx, st⟩]) (h0 : 0 ≤ now) (h1 : now ≤ 2000) (ht : 0 ≤ t) (hn : ¬ (st = 1 ∧ nx ≤ now)) :
    Calls Try.prog 12 #[.slice A 1 c, .int .i64 0, .int .i64 now] w (IsS w [⟨1, p, t, nx, st⟩] 1 ⟨0, 0, 0⟩ false 1) := by
  have hd : dueB ⟨1, p, t, nx, st⟩ now = false := decide_eq_false (by rw [tick_small now h0 (by omega)]; exact hn)
  exact send_no A c 0 1 _ rfl ⟨1, p, t, nx, st⟩ now w h (by omega) rfl ht hd
theorem intend_one (A : Option Addr) (c : Nat) (p : Int) (w : World) (h : dO.At w A c [Z]) (h1 : 1 ≤ p) (h2 : p ≤ 1000000000000) :
    Calls Try.prog 13 #[.slice A 1 c, .int .i64 0, .int .i64 p, .int .i64 0] w (IsE w [⟨1, p, (0 : Nat), 0, 1⟩] 1 0) :=
  intend_any A c 0 1 [Z] rfl Z p 0 w h (by decide) rfl h1 h2 (by decide) (by decide)

set_option maxRecDepth 100000 in
set_option maxHeartbeats 4000000 in
theorem sent_law (A : Option Addr) (c : Nat) (ts : List Int) (price : Int) (w : World) (h : dI.At w A c ts) (hr : ∀ x ∈ ts, I64 x) (b1 : I64 price) :
    Calls Try.prog 4 #[.slice A ts.length c, .int .i64 price] w fun e w' => e = .returned (.bool true) ∧ Below w.heap.size w w' := by
  have H := Lib.hid h
  have hle := h.le
  have hmax := h.max
  have HR := Lib.hid hr
  have P1 : Pick price 900 (pickI price 900) := ⟨b1, by omega, rfl⟩
  have d1 := pick_bd price 900 (by omega)
  generalize pickI price 900 = y at P1 d1
  have hwp : IntKind.i64.wrap (1 + y) = 1 + y := IntWalk.i64_in _ (by omega)
  have hmk := mk1
  clear h hr b1
  go_enter Try.func4, Try.ntmps4
  go_wp2_with fail
  refine (awake_any _).mono ?_
  rintro e w1 ⟨rfl, b1⟩
  have B1 := Lib.hid b1
  clear b1
  go_upto_region 2 with (fail)
  go_cut [6, 7] (fun b e wx => ∃ A2 c2, b = .slice A2 1 c2 ∧ e = .int .i64 0 ∧ Hid (dO.At wx A2 c2 [⟨1, 1 + y, (0 : Nat), 0, 1⟩]) ∧ Hid (Below w.heap.size w wx))
  case first =>
    go_region_with (first
      | (go_at_call 10; refine (pick_of _ (by assumption)).mono ?_; rintro e w' ⟨rfl, rfl⟩)
      | (go_at_call 13; go_must (refine (intend_one _ 1 (1 + y) _ ?_ (by omega) (by omega)).mono ?_; (first | exact (litz1 w1).at_ | exact (litz1 w1).at_.drewN 1); rintro e w2 ⟨A2, c2, rfl, o2, b2⟩; have O2 := Lib.hid o2; have B2 := Lib.hid b2; clear o2 b2)))
    all_goals go_wp2_with fail
    all_goals go_meet
    all_goals exact ⟨A2, c2, rfl, rfl, O2.out.at_, below_step (below_drewN (below_alloc B1.out _) 1) B2.out⟩
  case rest =>
    obtain ⟨A2, c2, rfl, rfl, HA, HB⟩ := hcut
    clear hwp hmk
    generalize 1 + y = p at HA
    go_wp2_with fail
    go_loopw [6, 8, 9, 10, 11, 12] (fun b nv sv lv tv iv wr => ∃ (i t0 : Nat) (A : Option Addr) (c : Nat) (nw ls wt nx st : Int), i ≤ ts.length ∧ i ≤ 60 ∧ iv = .int .i64 i ∧ b = .slice A 1 c ∧ nv = .int .i64 nw ∧ sv = .int .i64 t0 ∧ lv = .int .i64 ls ∧ tv = .int .i64 wt ∧ t0 ≤ 5 ∧ 0 ≤ nw ∧ nw ≤ 20 * i ∧ 0 ≤ ls ∧ ls ≤ nw ∧ 0 ≤ wt ∧ wt ≤ 32 ∧ Hid (nx = ls + wt) ∧ (st = 1 ∨ st = 3) ∧ Hid (dO.At wr A c [⟨1, p, t0, nx, st⟩]) ∧ Hid (Below w.heap.size w wr)) (fun _ _ _ _ _ iv _ => 60 - (intOf iv).toNat)
    case atStart => exact ⟨0, 0, A2, c2, 0, 0, 0, 0, 1, Nat.zero_le _, Nat.zero_le _, rfl, rfl, rfl, rfl, rfl, rfl, by omega, by omega, by omega, by omega, by omega, by omega, by omega, rfl, .inl rfl, HA, HB⟩
    case round =>
      obtain ⟨i, t0, A, c, nw, ls, wt, nx, st, hk, h60, rfl, rfl, rfl, rfl, rfl, rfl, ht5, hn0, hn1, hl0, hl1, hw0, hw1, HN, hst, HA, HB⟩ := hrel
      by_cases hlt : i < ts.length ∧ i < 60
      · obtain ⟨hi1, hi2⟩ := hlt
        have g1 : decide ((i : Int) < 60) = true := decide_eq_true (by omega)
        have hx : ts[i]? = some ts[i] := List.getElem?_eq_getElem hi1
        obtain ⟨b, off, rfl, hbl, cD⟩ := at_getI (H.out.below HB.out) i _ hx
        have hI := HR.out _ (List.getElem_mem hi1)
        generalize ts[i] = z at cD hx hI
        clear hx
        have P2 : Pick z 20 (pickI z 20) := ⟨hI, by omega, rfl⟩
        have d2 := pick_bd z 20 (by omega)
        generalize pickI z 20 = dz at P2 d2
        have hwn : IntKind.i64.wrap (nw + dz) = nw + dz := IntWalk.i64_in _ (by omega)
        clear hI
        by_cases hdue : st = 1 ∧ nx ≤ nw + dz
        · obtain ⟨rfl, hnx⟩ := hdue
          have hnx2 : ls + wt ≤ nw + dz := by have := HN.out; omega
          by_cases h5 : t0 = 5
          · subst h5
            have C := Lib.hid (one_dead A c p nx (nw + dz) wr HA.out (by omega) (by omega) hnx)
            clear hnx
            go_wp2_with (first
              | (go_at_call 10; refine (pick_of _ (by assumption)).mono ?_; rintro e w' ⟨rfl, rfl⟩)
              | (go_at_call 12; refine C.out.mono ?_; rintro e w5 ⟨A5, c5, rfl, o5, b5⟩; have O5 := Lib.hid o5; have B5 := Lib.hid b5; clear o5 b5))
            refine ⟨⟨i + 1, 5, A5, c5, nw + dz, ls, wt, nx, 3, by omega, by omega, by go_num, rfl, rfl, rfl, rfl, rfl, by omega, by omega, by omega, by omega, by omega, by omega, by omega, HN, .inr rfl, O5.out.at_.below (below_alloc (Below.refl _ _) _), below_alloc (below_step HB.out B5.out) _⟩, ?_⟩
            simp [intOf]; omega
          · have hc : t0 = 0 ∨ t0 = 1 ∨ t0 = 2 ∨ t0 = 3 ∨ t0 = 4 := by omega
            have gl : decide (nw + dz - ls < wt) = false := decide_eq_false (by omega)
            clear ht5 h5
            rcases hc with rfl | rfl | rfl | rfl | rfl
            · have C := Lib.hid (one_live A c p nx 0 (nw + dz) wr HA.out (by omega) (by omega) hnx (by omega) 2 rfl (by omega) (by omega))
              have hws : IntKind.i64.wrap 2 = 2 := by rw [IntKind.wrap_i64]; omega
              clear hnx
              go_wp2_with (first
                | (go_at_call 10; refine (pick_of _ (by assumption)).mono ?_; rintro e w' ⟨rfl, rfl⟩)
                | (go_at_call 12; refine C.out.mono ?_; rintro e w5 ⟨A5, c5, rfl, o5, b5⟩; have O5 := Lib.hid o5; have B5 := Lib.hid b5; clear o5 b5))
              refine ⟨⟨i + 1, 1, A5, c5, nw + dz, nw + dz, 2, nw + dz + 2, 1, by omega, by omega, by go_num, rfl, rfl, rfl, rfl, rfl, by omega, by omega, by omega, by omega, by omega, by omega, by omega, rfl, .inl rfl, O5.out.at_.below (below_alloc (Below.refl _ _) _), below_alloc (below_step HB.out B5.out) _⟩, ?_⟩
              simp [intOf]; omega
            · have C := Lib.hid (one_live A c p nx 1 (nw + dz) wr HA.out (by omega) (by omega) hnx (by omega) 4 rfl (by omega) (by omega))
              have hws : IntKind.i64.wrap 4 = 4 := by rw [IntKind.wrap_i64]; omega
              clear hnx
              go_wp2_with (first
                | (go_at_call 10; refine (pick_of _ (by assumption)).mono ?_; rintro e w' ⟨rfl, rfl⟩)
                | (go_at_call 12; refine C.out.mono ?_; rintro e w5 ⟨A5, c5, rfl, o5, b5⟩; have O5 := Lib.hid o5; have B5 := Lib.hid b5; clear o5 b5))
              refine ⟨⟨i + 1, 2, A5, c5, nw + dz, nw + dz, 4, nw + dz + 4, 1, by omega, by omega, by go_num, rfl, rfl, rfl, rfl, rfl, by omega, by omega, by omega, by omega, by omega, by omega, by omega, rfl, .inl rfl, O5.out.at_.below (below_alloc (Below.refl _ _) _), below_alloc (below_step HB.out B5.out) _⟩, ?_⟩
              simp [intOf]; omega
            · have C := Lib.hid (one_live A c p nx 2 (nw + dz) wr HA.out (by omega) (by omega) hnx (by omega) 8 rfl (by omega) (by omega))
              have hws : IntKind.i64.wrap 8 = 8 := by rw [IntKind.wrap_i64]; omega
              clear hnx
              go_wp2_with (first
                | (go_at_call 10; refine (pick_of _ (by assumption)).mono ?_; rintro e w' ⟨rfl, rfl⟩)
                | (go_at_call 12; refine C.out.mono ?_; rintro e w5 ⟨A5, c5, rfl, o5, b5⟩; have O5 := Lib.hid o5; have B5 := Lib.hid b5; clear o5 b5))
              refine ⟨⟨i + 1, 3, A5, c5, nw + dz, nw + dz, 8, nw + dz + 8, 1, by omega, by omega, by go_num, rfl, rfl, rfl, rfl, rfl, by omega, by omega, by omega, by omega, by omega, by omega, by omega, rfl, .inl rfl, O5.out.at_.below (below_alloc (Below.refl _ _) _), below_alloc (below_step HB.out B5.out) _⟩, ?_⟩
              simp [intOf]; omega
            · have C := Lib.hid (one_live A c p nx 3 (nw + dz) wr HA.out (by omega) (by omega) hnx (by omega) 16 rfl (by omega) (by omega))
              have hws : IntKind.i64.wrap 16 = 16 := by rw [IntKind.wrap_i64]; omega
              clear hnx
              go_wp2_with (first
                | (go_at_call 10; refine (pick_of _ (by assumption)).mono ?_; rintro e w' ⟨rfl, rfl⟩)
                | (go_at_call 12; refine C.out.mono ?_; rintro e w5 ⟨A5, c5, rfl, o5, b5⟩; have O5 := Lib.hid o5; have B5 := Lib.hid b5; clear o5 b5))
              refine ⟨⟨i + 1, 4, A5, c5, nw + dz, nw + dz, 16, nw + dz + 16, 1, by omega, by omega, by go_num, rfl, rfl, rfl, rfl, rfl, by omega, by omega, by omega, by omega, by omega, by omega, by omega, rfl, .inl rfl, O5.out.at_.below (below_alloc (Below.refl _ _) _), below_alloc (below_step HB.out B5.out) _⟩, ?_⟩
              simp [intOf]; omega
            · have C := Lib.hid (one_live A c p nx 4 (nw + dz) wr HA.out (by omega) (by omega) hnx (by omega) 32 rfl (by omega) (by omega))
              have hws : IntKind.i64.wrap 32 = 32 := by rw [IntKind.wrap_i64]; omega
              clear hnx
              go_wp2_with (first
                | (go_at_call 10; refine (pick_of _ (by assumption)).mono ?_; rintro e w' ⟨rfl, rfl⟩)
                | (go_at_call 12; refine C.out.mono ?_; rintro e w5 ⟨A5, c5, rfl, o5, b5⟩; have O5 := Lib.hid o5; have B5 := Lib.hid b5; clear o5 b5))
              refine ⟨⟨i + 1, 5, A5, c5, nw + dz, nw + dz, 32, nw + dz + 32, 1, by omega, by omega, by go_num, rfl, rfl, rfl, rfl, rfl, by omega, by omega, by omega, by omega, by omega, by omega, by omega, rfl, .inl rfl, O5.out.at_.below (below_alloc (Below.refl _ _) _), below_alloc (below_step HB.out B5.out) _⟩, ?_⟩
              simp [intOf]; omega
        · have C := Lib.hid (one_no A c p nx t0 st (nw + dz) wr HA.out (by omega) (by omega) (by omega) hdue)
          clear hdue
          go_wp2_with (first
            | (go_at_call 10; refine (pick_of _ (by assumption)).mono ?_; rintro e w' ⟨rfl, rfl⟩)
            | (go_at_call 12; refine C.out.mono ?_; rintro e w5 ⟨A5, c5, rfl, o5, b5⟩; have O5 := Lib.hid o5; have B5 := Lib.hid b5; clear o5 b5))
          refine ⟨⟨i + 1, t0, A5, c5, nw + dz, ls, wt, nx, st, by omega, by omega, by go_num, rfl, rfl, rfl, rfl, rfl, by omega, by omega, by omega, by omega, by omega, by omega, by omega, HN, hst, O5.out.at_.below (below_alloc (Below.refl _ _) _), below_alloc (below_step HB.out B5.out) _⟩, ?_⟩
          simp [intOf]; omega
      · obtain ⟨b, off, rfl, hbl, _, _, _, _, a4⟩ := at_getO HA.out 0 _ rfl
        have a5 : wr.cell? ⟨b, off + 4, none⟩ = some (.int .i64 st) := by simpa using a4
        have g9 : decide ((t0 : Int) ≤ 5) = true := decide_eq_true (by omega)
        clear a4
        have hend : ¬ (i < ts.length) ∨ ¬ ((i : Int) < 60) := by omega
        clear hlt
        rcases hst with rfl | rfl
        · by_cases hi1 : i < ts.length
          · have g1 : decide ((i : Int) < 60) = false := decide_eq_false (by omega)
            clear hend
            go_wp2_with fail
            go_quiet (fail)
            go_wp2
            go_ret
            exact ⟨rfl, below_drewN HB.out _⟩
          · clear hend
            go_wp2_with fail
            go_quiet (fail)
            go_wp2
            go_ret
            exact ⟨rfl, below_drewN HB.out _⟩
        · by_cases hi1 : i < ts.length
          · have g1 : decide ((i : Int) < 60) = false := decide_eq_false (by omega)
            clear hend
            go_wp2_with fail
            go_quiet (fail)
            go_wp2
            go_ret
            exact ⟨rfl, below_drewN HB.out _⟩
          · clear hend
            go_wp2_with fail
            go_quiet (fail)
            go_wp2
            go_ret
            exact ⟨rfl, below_drewN HB.out _⟩
end Go.Proofs.Ytgeocadpdpjmjaa.Out
