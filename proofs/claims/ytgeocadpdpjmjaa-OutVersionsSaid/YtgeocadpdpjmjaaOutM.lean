/- OutDone: its walk. -/
import Derived.Test.YtgeocadpdpjmjaaOutL
namespace Go.Proofs.Ytgeocadpdpjmjaa.Out
open Go.RowKit Go.Proofs.Ytgeocadpdpjmjaa.Mem

theorem same_yes {A B : Option Addr} {c k n : Nat} {xs : List Outs} (hn : xs.length = n) {w : World} (hx : dO.At w A c xs) (hy : dO.At w B k xs) :
    Calls Try.prog 17 #[.slice A n c, .slice B n k] w fun e w' => e = .returned (.bool true) ∧ ∃ m, w' = w.drewN m := by
  subst hn
  have q := same_any A B c k xs xs w hx hy
  rw [decide_eq_true rfl] at q
  exact q
theorem ack_no (A : Option Addr) (c k : Nat) (xs : List Outs) (hn : xs.length = 4) (x : Outs) (hx : xs[k]? = some x) (ver : Int) (hb : ackB x ver = false) (w : World) (h : dO.At w A c xs) : Calls Try.prog 15 #[.slice A 4 c, .int .i64 k, .int .i64 ver] w (IsB w xs 4 false) := by
  have q := ack_any A c k 4 xs hn x ver false hb w h (by omega) hx
  rw [if_neg (by decide), set_same hx] at q
  exact q
theorem rej_no (A : Option Addr) (c k : Nat) (xs : List Outs) (hn : xs.length = 4) (x : Outs) (hx : xs[k]? = some x) (ver : Int) (hb : rejB x ver = false) (w : World) (h : dO.At w A c xs) : Calls Try.prog 16 #[.slice A 4 c, .int .i64 k, .int .i64 ver] w (IsB w xs 4 false) := by
  have q := rej_any A c k 4 xs hn x ver false hb w h (by omega) hx
  rw [if_neg (by decide), set_same hx] at q
  exact q
theorem rev_no (A : Option Addr) (c k : Nat) (xs : List Outs) (hn : xs.length = 4) (x : Outs) (hx : xs[k]? = some x) (now : Int) (hb : decide (x.s = 3) = false) (w : World) (h : dO.At w A c xs) : Calls Try.prog 14 #[.slice A 4 c, .int .i64 k, .int .i64 now] w (IsB w xs 4 false) := by
  have q := rev_any A c k 4 xs hn x now false hb w h (by omega) hx
  rw [if_neg (by decide), set_same hx] at q
  exact q
theorem dueUp_mem (L : List Outs) (now : Int) (n : Nat) (y : Int) (h : y ∈ dueUp L now n) : ∃ i : Nat, y = i ∧ dueB (L.getD i Z) now = true := by
  unfold dueUp at h
  obtain ⟨i, _, hi⟩ := List.mem_filterMap.1 h
  refine ⟨i, ?_⟩
  by_cases hd : dueB (L.getD i Z) now = true
  · rw [if_pos hd] at hi
    exact ⟨(Option.some.inj hi).symm, hd⟩
  · rw [if_neg hd] at hi
    cases hi
theorem dueUp_not (L : List Outs) (now : Int) (n s : Nat) (x : Outs) (hx : L[s]? = some x) (hd : dueB x now = false) : ∀ y ∈ dueUp L now n, y ≠ (s : Int) := fun y hy e => by
  obtain ⟨i, rfl, hi⟩ := dueUp_mem L now n y hy
  obtain rfl : i = s := by omega
  rw [List.getD_eq_getElem?_getD, hx, Option.getD_some, hd] at hi
  cases hi

/-- What stands behind the first three calls. -/
def Tail (w : World) (e : Ending) (w' : World) : Prop := e = .returned (.bool true) ∧ Below w.heap.size w w'
set_option maxRecDepth 100000 in
set_option maxHeartbeats 4000000 in
theorem done_law (A : Option Addr) (c : Nat) (rs : List Raw) (sku version now : Int) (w : World) (h : dR.At w A c rs) (hr : ∀ r ∈ rs, R64 r) (b2 : I64 sku) (b3 : I64 version) :
    Calls Try.prog 7 #[.slice A rs.length c, .int .i64 sku, .int .i64 version, .int .i64 now] w fun e w' => e = .returned (.bool true) ∧ Below w.heap.size w w' := by
  have H := Lib.hid h
  have HR := Lib.hid hr
  have P2 : Pick sku 4 (pickI sku 4) := ⟨b2, by omega, rfl⟩
  have P3 : Pick version 40 (pickI version 40) := ⟨b3, by omega, rfl⟩
  have d2 := pick_bd sku 4 (by omega)
  generalize pickI sku 4 = y2 at P2 d2
  generalize pickI version 40 = ver at P3
  obtain ⟨s, rfl⟩ : ∃ s : Nat, y2 = s := ⟨y2.toNat, by omega⟩
  have hs4 : s < 4 := by omega
  clear h hr b2 b3
  go_enter Try.func7, Try.ntmps7
  go_wp2_with fail
  refine (awake_any _).mono ?_
  rintro e w1 ⟨rfl, b1⟩
  have B1 := Lib.hid b1
  clear b1
  go_wp2_with fail
  refine (box_any _ _ _ _ (H.out.below B1.out) HR.out).mono ?_
  rintro e w2 ⟨A2, c2, L, rfl, o2, g2, b2⟩
  have O2 := Lib.hid o2.at_
  have G2 := Lib.hid g2
  have B2 := Lib.hid (below_step B1.out b2)
  clear o2 g2 b2
  have hx : L[s]? = some (L[s]'(by have := G2.out.1; omega)) := List.getElem?_eq_getElem _
  have hF := G2.out.2 _ (List.getElem_mem (l := L) (n := s) (by have := G2.out.1; omega))
  generalize L[s]'(by have := G2.out.1; omega) = z at hx hF
  have HX := Lib.hid hx
  have HF := Lib.hid hF
  clear hx hF
  obtain ⟨zv, zp, zt, zn, zs⟩ := z
  obtain ⟨bA, oA, rfl, hbA, a0, _, _, _, a4⟩ := at_getO O2.out s _ HX.out
  go_wp2_with fail
  refine (pick_of _ P2).mono ?_
  rintro e w' ⟨rfl, rfl⟩
  go_wp2_with fail
  refine (pick_of _ P3).mono ?_
  rintro e w' ⟨rfl, rfl⟩
  go_wp2_with fail
  obtain ⟨ba, hba⟩ : ∃ b, ackB ⟨zv, zp, zt, zn, zs⟩ ver = b := ⟨_, rfl⟩
  obtain ⟨br, hbr⟩ : ∃ b, rejB ⟨zv, zp, zt, zn, zs⟩ ver = b := ⟨_, rfl⟩
  have HBA := Lib.hid hba
  have HBR := Lib.hid hbr
  have CA := Lib.hid (ack_any (some ⟨bA, oA, none⟩) c2 s 4 L G2.out.1 _ ver ba hba w2 O2.out (by omega) HX.out)
  have CR := Lib.hid (fun W hW => rej_any (some ⟨bA, oA, none⟩) c2 s 4 L G2.out.1 _ ver br hbr W hW (by omega) HX.out)
  clear hba hbr
  go_upto_region 8 with (first
    | (go_at_call 15; refine CA.out.mono ?_; rintro e w3 ⟨A3, c3, rfl, o3, b3⟩; have O3 := Lib.hid o3; have T3 := Lib.hid b3; clear o3 b3)
    | (go_at_call 16; refine (CR.out _ (O2.out.below T3.out)).mono ?_; rintro e w4 ⟨A4, c4, rfl, o4, b4⟩; have O4 := Lib.hid o4; have T4 := Lib.hid b4; clear o4 b4))
  go_cut [78] (fun v wx => v = .bool false ∧ Hid (Below w2.heap.size w2 wx))
  case first =>
    by_cases ho : ver = zv
    · have g1 : (ver != zv) = false := by simp [ho]
      clear ho
      go_wp2_with fail
      go_meet
      exact ⟨rfl, below_step T3.out T4.out⟩
    · have g1 : (ver != zv) = true := by simpa using ho
      have e1 : ackB ⟨zv, zp, zt, zn, zs⟩ ver = false := decide_eq_false (fun k => ho k.1.symm)
      have e2 : rejB ⟨zv, zp, zt, zn, zs⟩ ver = false := decide_eq_false (fun k => ho k.1.symm)
      obtain rfl : ba = false := HBA.out.symm.trans e1
      obtain rfl : br = false := HBR.out.symm.trans e2
      rw [if_neg (by decide), set_same HX.out] at O3 O4
      clear e1 e2 ho
      go_wp2_with fail
      refine (same_yes G2.out.1 (O3.out.at_.below T4.out) ((O2.out.below T3.out).below T4.out)).mono ?_
      rintro e w5 ⟨rfl, m5, rfl⟩
      go_wp2_with fail
      refine (same_yes G2.out.1 (O4.out.at_.drewN m5) (((O2.out.below T3.out).below T4.out).drewN m5)).mono ?_
      rintro e w6 ⟨rfl, m6, rfl⟩
      go_wp2_with fail
      go_meet
      exact ⟨rfl, below_drewN (below_step T3.out T4.out) (m5 + m6)⟩
  case rest =>
    obtain ⟨rfl, TC⟩ := hcut
    have OC := Lib.hid (O2.out.below TC.out)
    have BC := Lib.hid (below_step B2.out TC.out)
    have q0 := below_cell TC.out a0
    have q4 := below_cell TC.out a4
    have hzC := TC.out.size
    have n1 : bA < wc.heap.size := by omega
    clear a0 a4 CA CR B1 HBA HBR
    by_cases hdone : zs = 1 ∨ zs = 3
    · have e1 : ackB ⟨zv, zp, zt, zn, zs⟩ zv = true := decide_eq_true ⟨rfl, hdone⟩
      have C1 := Lib.hid (ack_any (some ⟨bA, oA, none⟩) c2 s 4 L G2.out.1 _ zv true e1 wc OC.out (by omega) HX.out)
      have hlen : (L.set s (if true = true then stateO ⟨zv, zp, zt, zn, zs⟩ 2 else ⟨zv, zp, zt, zn, zs⟩)).length = 4 := by rw [List.length_set]; exact G2.out.1
      have hget : (L.set s (if true = true then stateO ⟨zv, zp, zt, zn, zs⟩ 2 else ⟨zv, zp, zt, zn, zs⟩))[s]? = some ⟨zv, zp, zt, zn, 2⟩ := List.getElem?_set_self (by have := G2.out.1; omega)
      generalize L.set s (if true = true then stateO ⟨zv, zp, zt, zn, zs⟩ 2 else ⟨zv, zp, zt, zn, zs⟩) = L1 at C1 hlen hget
      have hd : dueB ⟨zv, zp, zt, zn, 2⟩ now = false := decide_eq_false (fun k => by have := k.1; simp at this)
      have C2 := Lib.hid (fun A c W hW => send_no A c s 4 L1 hlen _ now W hW (by omega) hget HF.out.2.1.1 hd)
      have C3 := Lib.hid (fun A c W hW => ack_no A c s L1 hlen _ hget zv (decide_eq_false (fun k => by have := k.2; simp at this)) W hW)
      have C4 := Lib.hid (fun A c W hW => rej_no A c s L1 hlen _ hget zv (decide_eq_false (fun k => by have := k.2; simp at this)) W hW)
      have C5 := Lib.hid (fun A c W hW => rev_no A c s L1 hlen _ hget now (decide_eq_false (fun k => by simp at k)) W hW)
      have C6 := Lib.hid (fun A c W hW => dueL_any A c 4 L1 hlen now W hW (by omega))
      have HD := Lib.hid (dueUp_not L1 now 4 s _ hget hd)
      generalize dueUp L1 now 4 = D at C6 HD
      have HG := Lib.hid hget
      clear e1 hlen hget hd
      rcases hdone with rfl | rfl
      all_goals
        go_wp2_with fail
        refine C1.out.mono ?_
        rintro e w3 ⟨A3, c3, rfl, o3, b3⟩
        obtain ⟨g3, rfl, hge3, hlt3, _, _, _, _, r4⟩ := own_getO o3 s _ HG.out
        have O3' := Lib.hid o3.at_
        have T3' := Lib.hid b3
        have p4 := below_cell b3 q4
        clear o3 b3 q4
        go_wp2_with fail
        refine (C2.out _ _ _ O3'.out).mono ?_
        rintro e w4 ⟨A4, c4, rfl, o4, b4⟩
        have T4' := Lib.hid b4
        clear o4 b4
        go_wp2_with fail
        refine (C3.out _ _ _ ((O3'.out.below T4'.out).below (below_alloc (Below.refl _ _) _))).mono ?_
        rintro e w5 ⟨A5, c5, rfl, o5, b5⟩
        have T5 : Hid (Below w4.heap.size w4 w5) := below_step (below_alloc (Below.refl _ _) _) b5
        clear o5 b5
        go_wp2_with fail
        refine (C4.out _ _ _ ((O3'.out.below T4'.out).below T5.out)).mono ?_
        rintro e w6 ⟨A6, c6, rfl, o6, b6⟩
        have T6 := Lib.hid b6
        clear o6 b6
        go_wp2_with fail
        refine (C5.out _ _ _ (((O3'.out.below T4'.out).below T5.out).below T6.out)).mono ?_
        rintro e w7 ⟨A7, c7, rfl, o7, b7⟩
        have T7 := Lib.hid b7
        clear o7 b7
        go_wp2_with fail
        refine (C6.out _ _ _ ((((O3'.out.below T4'.out).below T5.out).below T6.out).below T7.out)).mono ?_
        rintro e w8 ⟨A8, c8, rfl, o8, b8⟩
        have O8 := Lib.hid o8.at_
        have T8 := Lib.hid b8
        have l8 := o8.at_.le
        have m8 := o8.at_.max
        clear o8 b8
        have r8 := below_cell T8.out (below_cell T7.out (below_cell T6.out (below_cell T5.out (below_cell T4'.out r4))))
        have BB := Lib.hid (below_step (below_step (below_step (below_step (below_step (below_step BC.out T3'.out) T4'.out) T5.out) T6.out) T7.out) T8.out)
        clear r4 p4 q0
        go_wp2_with fail
        go_loop [31] (fun iv => ∃ i : Nat, i ≤ D.length ∧ iv = .int .i64 i) (fun iv => D.length - (intOf iv).toNat)
        case atStart => exact ⟨0, Nat.zero_le _, rfl⟩
        case round =>
          obtain ⟨i, hi, rfl⟩ := hrel
          by_cases hlt : i < D.length
          · have hy : D[i]? = some D[i] := List.getElem?_eq_getElem hlt
            have hne := HD.out _ (List.getElem_mem hlt)
            obtain ⟨bD, oD, rfl, hbD, cD⟩ := at_getI O8.out i _ hy
            generalize D[i] = y at hy hne cD
            have g1 : (y == (s : Int)) = false := by simpa using hne
            clear hy hne
            go_wp2_with fail
            refine ⟨⟨i + 1, by omega, by go_num⟩, ?_⟩
            simp [intOf]; omega
          · obtain rfl : i = D.length := by omega
            go_wp2_with fail
            go_ret
            exact ⟨rfl, BB.out⟩
    · have e1 : ackB ⟨zv, zp, zt, zn, zs⟩ zv = false := decide_eq_false (fun k => hdone k.2)
      have C1 := Lib.hid (ack_no (some ⟨bA, oA, none⟩) c2 s L G2.out.1 _ HX.out zv e1 wc OC.out)
      have g1 : (zs == 1) = false := by simp; omega
      have g3 : (zs == 3) = false := by simp; omega
      clear e1 hdone
      go_wp2_with fail
      refine C1.out.mono ?_
      rintro e w3 ⟨A3, c3, rfl, o3, b3⟩
      have O3' := Lib.hid o3.at_
      have T3' := Lib.hid b3
      have p4 := below_cell b3 q4
      clear o3 b3 q4
      go_wp2_with fail
      refine (same_yes G2.out.1 O3'.out (OC.out.below T3'.out)).mono ?_
      rintro e w5 ⟨rfl, m5, rfl⟩
      go_wp2_with fail
      go_ret
      exact ⟨rfl, below_drewN (below_step BC.out T3'.out) m5⟩
end Go.Proofs.Ytgeocadpdpjmjaa.Out
