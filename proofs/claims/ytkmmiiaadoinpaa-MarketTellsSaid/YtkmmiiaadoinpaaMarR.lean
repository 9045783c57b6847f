/- MarketTells: its walk. -/
import Derived.Test.YtkmmiiaadoinpaaMarQ
namespace Go.Proofs.Ytkmmiiaadoinpaa.Mar
open Go.RowKit Go.Proofs.Ytkmmiiaadoinpaa.Mem

theorem same_is (A B : Option Addr) (c k : Nat) (xs : List Mail) (w : World) (hx : dM.At w A c xs) (hy : dM.At w B k xs) :
    Calls Try.prog 13 #[.slice A xs.length c, .slice B xs.length k] w fun e w' => e = .returned (.bool true) ∧ ∃ m, w' = w.drewN m := same_yes rfl hx hy
theorem sameS_is (A B : Option Addr) (c k : Nat) (xs : List Shown) (w : World) (hx : dS.At w A c xs) (hy : dS.At w B k xs) :
    Calls Try.prog 21 #[.slice A xs.length c, .slice B xs.length k] w fun e w' => e = .returned (.bool true) ∧ ∃ m, w' = w.drewN m := by
  have q := sameS_any A B c k xs xs w hx hy
  rw [decide_eq_true rfl] at q
  exact q
theorem showL_le (S : List Shown) (m : Mail) : (showL S m).length = S.length := showL_len S m

set_option maxRecDepth 100000 in
set_option maxHeartbeats 8000000 in
theorem tells_law (A0 : Option Addr) (c0 : Nat) (rs : List Mail) (A1 : Option Addr) (c1 : Nat) (ys : List Mail) (A2 : Option Addr) (c2 : Nat) (S : List Shown) (m : Mail) (n : Int) (w : World)
    (h0 : dM.At w A0 c0 rs) (hr : ∀ r ∈ rs, R64 r) (h1 : dM.At w A1 c1 ys) (hb1 : ys.length * 24 ≤ 140737488355328) (h2 : dS.At w A2 c2 S) (hb2 : S.length * 16 ≤ 140737488355328) (hn : I64 n) :
    Calls Try.prog 3 #[.slice A0 rs.length c0, .slice A1 ys.length c1, .slice A2 S.length c2, .agg #[.int .i64 m.s, .int .i64 m.v, .int .i64 m.p], .int .i64 n] w fun e w' => e = .returned (.bool true) ∧ Below w.heap.size w w' := by
  have H0 := Lib.hid h0
  have HR := Lib.hid hr
  have H1 := Lib.hid h1
  have H2 := Lib.hid h2
  have hbx := mailsL_len rs
  have P1 : Pick n 32 (pickI n 32) := ⟨hn, by omega, rfl⟩
  generalize pickI n 32 = pn at P1
  clear h0 hr h1 h2 hn
  have HC := Lib.hid (fun W hW => mails_any A0 c0 rs W hW HR.out)
  generalize mailsL rs = xs at HC hbx
  go_enter Try.func3, Try.ntmps3
  go_wp2_with fail
  refine (awake_any _).mono ?_
  rintro e w1 ⟨rfl, b1⟩
  have X1 : Hid (Box w1 w.heap.size m) := (Box.new w m).below b1
  have B1 := Lib.hid (below_step (below_alloc (Below.refl _ _) _) b1)
  clear b1
  go_wp2_with fail
  refine (HC.out _ (H0.out.below B1.out)).mono ?_
  rintro e w2 ⟨A3, c3, rfl, o2, b2⟩
  have X2 : Hid (Box (w2.alloc (.cells #[.slice A3 xs.length c3, .slice A1 ys.length c1] 23)) w.heap.size m) := (X1.out.below b2).alloc _
  have B2 : Hid (Below w.heap.size w (w2.alloc (.cells #[.slice A3 xs.length c3, .slice A1 ys.length c1] 23))) := below_alloc (below_step B1.out b2) _
  have L0 : Hid (dM.At (w2.alloc (.cells #[.slice A3 xs.length c3, .slice A1 ys.length c1] 23)) A3 c3 xs) := o2.at_.below (below_alloc (Below.refl _ _) _)
  have L1 : Hid (dM.At (w2.alloc (.cells #[.slice A3 xs.length c3, .slice A1 ys.length c1] 23)) A1 c1 ys) := H1.out.below B2.out
  have L2 : Hid (dS.At (w2.alloc (.cells #[.slice A3 xs.length c3, .slice A1 ys.length c1] 23)) A2 c2 S) := H2.out.below B2.out
  have q0 := cell_new w2 #[.slice A3 xs.length c3, .slice A1 ys.length c1] 23 0
  have q1 := cell_new w2 #[.slice A3 xs.length c3, .slice A1 ys.length c1] 23 1
  have Q0 := Lib.hid q0
  have Q1 := Lib.hid q1
  clear o2 b2 q0 q1
  go_wp2_with fail
  obtain ⟨W0, hW0⟩ : ∃ W0, w2.alloc (.cells #[.slice A3 xs.length c3, .slice A1 ys.length c1] 23) = W0 := ⟨_, rfl⟩
  rw [hW0] at X2 B2 L0 L1 L2 Q0 Q1 ⊢
  clear hW0
  generalize w2.heap.size = gB at Q0 Q1 ⊢
  go_loopw [37] (fun jv wr => ∃ j : Nat, j ≤ 2 ∧ jv = .int .i64 j ∧ Hid (Below W0.heap.size W0 wr)) (fun jv _ => 2 - (intOf jv).toNat)
  case atStart => exact ⟨0, Nat.zero_le _, rfl, Below.refl _ _⟩
  case round =>
    obtain ⟨j, hj2, rfl, HJ⟩ := hrel
    obtain ⟨wo, rfl⟩ : ∃ wo : World, wo = wr := ⟨_, rfl⟩
    have XR := Lib.hid (X2.out.below HJ.out)
    have hX0 := XR.out.c0
    have hX1 := XR.out.c1
    have hX2 := XR.out.c2
    by_cases hlt : j < 2
    · obtain ⟨A, c, zs, hcell, hAt, hbz⟩ : ∃ (A : Option Addr) (c : Nat) (zs : List Mail), wo.cell? ⟨gB, j, none⟩ = some (.slice A zs.length c) ∧ dM.At wo A c zs ∧ zs.length * 24 ≤ 140737488355328 := by
        have hc : j = 0 ∨ j = 1 := by omega
        rcases hc with rfl | rfl
        · exact ⟨A3, c3, xs, below_cell HJ.out Q0.out, L0.out.below HJ.out, by omega⟩
        · exact ⟨A1, c1, ys, below_cell HJ.out Q1.out, L1.out.below HJ.out, hb1⟩
      have HZ := Lib.hid hAt
      have hzl := hAt.le
      have hzm := hAt.max
      clear hAt
      go_wp2_with fail
      refine (post_any A c zs m _ HZ.out hbz).mono ?_
      rintro e w3 ⟨A4, c4, rfl, o3, b3⟩
      have y0 := below_cell b3 hX0
      have y1 := below_cell b3 hX1
      have y2 := below_cell b3 hX2
      have O3 := Lib.hid o3.at_
      have T3 := Lib.hid b3
      clear o3 b3
      go_wp2_with fail
      refine (refPost_any A c zs m _ (HZ.out.below T3.out) hbz).mono ?_
      rintro e w4 ⟨A5, c5, rfl, o4, b4⟩
      have O4 := Lib.hid o4.at_
      have T4 := Lib.hid b4
      clear o4 b4
      obtain ⟨pl, hpl⟩ : ∃ pl, postL zs m = pl := ⟨_, rfl⟩
      rw [hpl] at O3 O4 ⊢
      generalize postE zs = pe
      clear hpl
      go_wp2_with fail
      refine (same_is A4 A5 c4 c5 pl _ (O3.out.below T4.out) O4.out).mono ?_
      rintro e w5 ⟨rfl, m5, rfl⟩
      go_wp2_with fail
      refine (pick_of _ P1).mono ?_
      rintro e w' ⟨rfl, rfl⟩
      go_wp2_with fail
      obtain ⟨W1, hW1⟩ : ∃ W1, (w4.drewN m5).alloc (.cells #[.int .i64 n, .int .i64 pn, .int .i64 (-1)] 3) = W1 := ⟨_, rfl⟩
      have TW : Hid (Below wo.heap.size wo W1) := by rw [← hW1]; exact below_alloc (below_drewN (below_step T3.out T4.out) m5) _
      have i0 : W1.cell? ⟨w4.heap.size, 0, none⟩ = some (.int .i64 n) := by rw [← hW1]; exact cell_new (w4.drewN m5) _ _ 0
      have i1 : W1.cell? ⟨w4.heap.size, 1, none⟩ = some (.int .i64 pn) := by rw [← hW1]; exact cell_new (w4.drewN m5) _ _ 1
      have i2 : W1.cell? ⟨w4.heap.size, 2, none⟩ = some (.int .i64 (-1)) := by rw [← hW1]; exact cell_new (w4.drewN m5) _ _ 2
      have I0 := Lib.hid i0
      have I1 := Lib.hid i1
      have I2 := Lib.hid i2
      rw [hW1]
      clear hW1 i0 i1 i2 y0 y1 y2 hX0 hX1 hX2 hcell
      generalize w4.heap.size = gI at I0 I1 I2 ⊢
      clear O3 O4 T3 T4
      have HZ1 := Lib.hid (HZ.out.below TW.out)
      go_loopw [67] (fun qv wr2 => ∃ q : Nat, q ≤ 3 ∧ qv = .int .i64 q ∧ Hid (Below W1.heap.size W1 wr2)) (fun qv _ => 3 - (intOf qv).toNat)
      case atStart => exact ⟨0, Nat.zero_le _, rfl, Below.refl _ _⟩
      case round =>
        obtain ⟨q, hq3, rfl, HQ⟩ := hrel
        by_cases hltq : q < 3
        · obtain ⟨v, hv⟩ : ∃ v : Int, wr.cell? ⟨gI, q, none⟩ = some (.int .i64 v) := by
            have hc : q = 0 ∨ q = 1 ∨ q = 2 := by omega
            rcases hc with rfl | rfl | rfl
            · exact ⟨n, below_cell HQ.out I0.out⟩
            · exact ⟨pn, below_cell HQ.out I1.out⟩
            · exact ⟨-1, below_cell HQ.out I2.out⟩
          have Z0 := Lib.hid (HZ1.out.below HQ.out)
          have CK1 := Lib.hid (fun W hW => copy_any A c zs v W hW hbz)
          have CK2 := Lib.hid (fun W hW => refCopy_any A c zs v W hW hbz)
          have CK3 := Lib.hid (fun W hW => lose_any A c zs v W hW hbz)
          have CK4 := Lib.hid (fun W hW => refLose_any A c zs v W hW hbz)
          have CK5 := Lib.hid (fun W hW => take_any A c zs v W hW hbz)
          have CK6 := Lib.hid (fun W hW => refTake_any A c zs v W hW hbz)
          generalize copyL zs v = k1 at CK1 CK2
          generalize copyE zs v = k2 at CK1 CK2
          generalize takeL zs v = k3 at CK3 CK4 CK5 CK6
          generalize takeM zs v = k4 at CK5 CK6
          generalize (if here zs v = true then (0 : Int) else 1) = k5 at CK3 CK4
          generalize here zs v = k6 at CK5 CK6
          go_wp2_with fail
          refine (CK1.out _ Z0.out).mono ?_
          rintro e v1 ⟨E1, f1, rfl, o1, b1⟩
          have V1 := Lib.hid o1.at_
          have U1 := Lib.hid b1
          clear o1 b1 hv
          go_wp2_with fail
          refine (CK2.out _ (Z0.out.below U1.out)).mono ?_
          rintro e v2 ⟨E2, f2, rfl, o2, b2⟩
          have V2 := Lib.hid o2.at_
          have U2 := Lib.hid (below_step U1.out b2)
          have V1' := Lib.hid (V1.out.below b2)
          clear o2 b2
          go_wp2_with fail
          refine (CK3.out _ (Z0.out.below U2.out)).mono ?_
          rintro e v3 ⟨E3, f3, rfl, o3, b3⟩
          have V3 := Lib.hid o3.at_
          have T3 := Lib.hid b3
          have U3 := Lib.hid (below_step U2.out b3)
          clear o3 b3
          go_wp2_with fail
          refine (CK4.out _ (Z0.out.below U3.out)).mono ?_
          rintro e v4 ⟨E4, f4, rfl, o4, b4⟩
          have V4 := Lib.hid o4.at_
          have T4 := Lib.hid b4
          have U4 := Lib.hid (below_step U3.out b4)
          clear o4 b4
          go_wp2_with fail
          refine (CK5.out _ (Z0.out.below U4.out)).mono ?_
          rintro e v5 ⟨E5, f5, rfl, o5, b5⟩
          have V5 := Lib.hid o5.at_
          have T5 := Lib.hid b5
          have U5 := Lib.hid (below_step U4.out b5)
          clear o5 b5
          go_wp2_with fail
          refine (CK6.out _ ((Z0.out.below U5.out).below (below_alloc (Below.refl _ _) _))).mono ?_
          rintro e v6 ⟨E6, f6, rfl, o6, b6⟩
          have V6 := Lib.hid o6.at_
          have T6 : Hid (Below v5.heap.size v5 v6) := below_step (below_alloc (Below.refl _ _) _) b6
          have a0 := below_cell b6 (cell_new v5 #[.int .i64 k4.s, .int .i64 k4.v, .int .i64 k4.p] 26 0)
          have a1 := below_cell b6 (cell_new v5 #[.int .i64 k4.s, .int .i64 k4.v, .int .i64 k4.p] 26 1)
          have a2 := below_cell b6 (cell_new v5 #[.int .i64 k4.s, .int .i64 k4.v, .int .i64 k4.p] 26 2)
          have hz6 : v5.heap.size < v6.heap.size := by have := b6.size; simp at this; omega
          have hz7 : v5.heap.size ≠ v6.heap.size := by omega
          have U6 := Lib.hid (below_step U5.out T6.out)
          clear o6 b6
          go_wp2_with fail
          refine (same_is E1 E2 f1 f2 k1 _ ((((((V1'.out.below T3.out).below T4.out).below T5.out).below T6.out).below (below_alloc (Below.refl _ _) _))) ((((V2.out.below T3.out).below T4.out).below T5.out).below T6.out |>.below (below_alloc (Below.refl _ _) _))).mono ?_
          rintro e v7 ⟨rfl, n7, rfl⟩
          go_wp2_with fail
          refine (same_is E3 E4 f3 f4 k3 _ (((((V3.out.below T4.out).below T5.out).below T6.out).below (below_alloc (Below.refl _ _) _)).drewN n7) ((((V4.out.below T5.out).below T6.out).below (below_alloc (Below.refl _ _) _)).drewN n7)).mono ?_
          rintro e v8 ⟨rfl, n8, rfl⟩
          go_wp2_with fail
          refine (same_is E5 E6 f5 f6 k3 _ (((V5.out.below T6.out).below (below_alloc (Below.refl _ _) _)).drewN (n7 + n8)) ((V6.out.below (below_alloc (Below.refl _ _) _)).drewN (n7 + n8))).mono ?_
          rintro e v9 ⟨rfl, n9, rfl⟩
          go_wp2_with fail
          go_roundw
          case rel => exact ⟨q + 1, by omega, by go_num, below_drewN (below_alloc (below_step HQ.out U6.out) _) _⟩
          case measure => simp [intOf]; omega
        · obtain rfl : q = 3 := by omega
          obtain ⟨wi, rfl⟩ : ∃ wi : World, wi = wr := ⟨_, rfl⟩
          go_wp2_with fail
          have HZ2 := Lib.hid (HZ1.out.below HQ.out)
          have TJ := Lib.hid (below_step (below_step HJ.out TW.out) HQ.out)
          have LS := Lib.hid (L2.out.below TJ.out)
          clear HQ HZ1 TW HJ XR I0 I1 I2
          go_loopw [30] (fun qv wr3 => ∃ q : Nat, q ≤ zs.length ∧ qv = .int .i64 q ∧ Hid (Below wi.heap.size wi wr3)) (fun qv _ => zs.length - (intOf qv).toNat)
          case atStart => exact ⟨0, Nat.zero_le _, rfl, Below.refl _ _⟩
          case round =>
            obtain ⟨q, hqz, rfl, HQ⟩ := hrel
            by_cases hltq : q < zs.length
            · have hx : zs[q]? = some zs[q] := List.getElem?_eq_getElem hltq
              obtain ⟨b, off, e1, hbl, c0', c1', c2'⟩ := at_getM (HZ2.out.below HQ.out) q _ hx
              subst e1
              generalize zs[q] = x at c0' c1' c2' hx
              clear hx
              have LQ := Lib.hid (LS.out.below HQ.out)
              have hcc := And.intro c0' (And.intro c1' c2')
              have D1 := Lib.hid (fun W hW => show_any A2 c2 S x W hW hb2)
              have D2 := Lib.hid (fun W hW => refShow_any A2 c2 S x W hW hb2)
              obtain ⟨T, hT⟩ : ∃ T, showL S x = T := ⟨_, rfl⟩
              rw [hT] at D1 D2
              clear hT
              go_wp2_with fail
              go_region_held3 (fun w' => w'.cell? ⟨b, off + q * 3, none⟩ = some (.int .i64 x.s) ∧ w'.cell? ⟨b, off + q * 3 + 1, none⟩ = some (.int .i64 x.v) ∧ w'.cell? ⟨b, off + q * 3 + 2, none⟩ = some (.int .i64 x.p))
                (first | exact hq | exact hq2 | go_keep)
                (first
                  | (go_at_call 22; go_must (refine (D1.out _ ?_).mono ?_; (refine LQ.out.below ?_; first | (focus ((repeat (first | exact Below.refl _ _ | refine below_alloc ?_ _ | refine below_drew ?_ | refine below_drewN ?_ _)); done)) | (refine below_step U2.out ?_; focus ((repeat (first | exact Below.refl _ _ | refine below_alloc ?_ _ | refine below_drew ?_ | refine below_drewN ?_ _)); done))); rintro e v1 ⟨E1, f1, rfl, o1, b1⟩; have hq := keep3 b1 (by assumption); have V1 := Lib.hid o1.at_; have U1 := Lib.hid (below_step (w := wr) (by first | ((repeat (first | exact Below.refl _ _ | refine below_alloc ?_ _ | refine below_drew ?_ | refine below_drewN ?_ _)); done) | (refine below_step U2.out ?_; (repeat (first | exact Below.refl _ _ | refine below_alloc ?_ _ | refine below_drew ?_ | refine below_drewN ?_ _)); done)) b1); have U1t := Lib.hid b1; clear o1 b1))
                  | (go_at_call 23; go_must (refine (D2.out _ ?_).mono ?_; (refine LQ.out.below ?_; first | (focus ((repeat (first | exact Below.refl _ _ | refine below_alloc ?_ _ | refine below_drew ?_ | refine below_drewN ?_ _)); done)) | (refine below_step U1.out ?_; focus ((repeat (first | exact Below.refl _ _ | refine below_alloc ?_ _ | refine below_drew ?_ | refine below_drewN ?_ _)); done))); rintro e v2 ⟨E2, f2, rfl, o2, b2⟩; have hq2 := keep3 b2 (by assumption); have V2 := Lib.hid o2.at_; have U2 := Lib.hid (below_step (w := wr) (by first | ((repeat (first | exact Below.refl _ _ | refine below_alloc ?_ _ | refine below_drew ?_ | refine below_drewN ?_ _)); done) | (refine below_step U1.out ?_; (repeat (first | exact Below.refl _ _ | refine below_alloc ?_ _ | refine below_drew ?_ | refine below_drewN ?_ _)); done)) b2); have U2t := Lib.hid b2; clear o2 b2))
                  | (go_at_call 21; go_must (refine (sameS_is E1 E2 f1 f2 T _ ?_ ?_).mono ?_; (focus (first | exact V1.out | exact V1.out.below U2t.out | exact (V1.out.drewN 1).below U2t.out)); (focus (first | exact V2.out | exact V2.out.below U1t.out | exact (V2.out.drewN 1).below U1t.out)); rintro e v3 ⟨rfl, n3, rfl⟩)))
              all_goals go_wp2
              all_goals go_roundw
              case rel =>
                have hbl3 : Hid (Below wi.heap.size wi (v2.drewN n3)) := below_drewN (below_step HQ.out U2.out) _
                first
                  | exact ⟨q + 1, by omega, by go_num, hbl3⟩
                  | ((repeat apply Exists.intro); exact ⟨⟨q + 1, by omega, by go_num, hbl3⟩, rfl⟩)
              case measure => simp [intOf]; omega
            · obtain rfl : q = zs.length := by omega
              go_wp2_with fail
              go_roundw
              case rel => exact ⟨j + 1, by omega, by go_num, below_step TJ.out HQ.out⟩
              case measure => simp [intOf]; omega
    · obtain rfl : j = 2 := by omega
      obtain ⟨wo', rfl⟩ : ∃ wo' : World, wo' = wo := ⟨_, rfl⟩
      have LQ := Lib.hid (L2.out.below HJ.out)
      have hcc := And.intro hX0 (And.intro hX1 hX2)
      have D1 := Lib.hid (fun W hW => show_any A2 c2 S m W hW hb2)
      have D2 := Lib.hid (fun W hW => refShow_any A2 c2 S m W hW hb2)
      obtain ⟨T, hT⟩ : ∃ T, showL S m = T := ⟨_, rfl⟩
      rw [hT] at D1 D2
      clear hT
      go_wp2_with fail
      go_region_held3 (fun w' => w'.cell? ⟨w.heap.size, 0, none⟩ = some (.int .i64 m.s) ∧ w'.cell? ⟨w.heap.size, 1, none⟩ = some (.int .i64 m.v) ∧ w'.cell? ⟨w.heap.size, 2, none⟩ = some (.int .i64 m.p))
        (first | exact hq | exact hq2 | go_keep)
        (first
          | (go_at_call 22; go_must (refine (D1.out _ ?_).mono ?_; (refine LQ.out.below ?_; first | (focus ((repeat (first | exact Below.refl _ _ | refine below_alloc ?_ _ | refine below_drew ?_ | refine below_drewN ?_ _)); done)) | (refine below_step U2.out ?_; focus ((repeat (first | exact Below.refl _ _ | refine below_alloc ?_ _ | refine below_drew ?_ | refine below_drewN ?_ _)); done))); rintro e v1 ⟨E1, f1, rfl, o1, b1⟩; have hq := keep3 b1 (by assumption); have V1 := Lib.hid o1.at_; have U1 := Lib.hid (below_step (w := wo') (by first | ((repeat (first | exact Below.refl _ _ | refine below_alloc ?_ _ | refine below_drew ?_ | refine below_drewN ?_ _)); done) | (refine below_step U2.out ?_; (repeat (first | exact Below.refl _ _ | refine below_alloc ?_ _ | refine below_drew ?_ | refine below_drewN ?_ _)); done)) b1); have U1t := Lib.hid b1; clear o1 b1))
          | (go_at_call 23; go_must (refine (D2.out _ ?_).mono ?_; (refine LQ.out.below ?_; first | (focus ((repeat (first | exact Below.refl _ _ | refine below_alloc ?_ _ | refine below_drew ?_ | refine below_drewN ?_ _)); done)) | (refine below_step U1.out ?_; focus ((repeat (first | exact Below.refl _ _ | refine below_alloc ?_ _ | refine below_drew ?_ | refine below_drewN ?_ _)); done))); rintro e v2 ⟨E2, f2, rfl, o2, b2⟩; have hq2 := keep3 b2 (by assumption); have V2 := Lib.hid o2.at_; have U2 := Lib.hid (below_step (w := wo') (by first | ((repeat (first | exact Below.refl _ _ | refine below_alloc ?_ _ | refine below_drew ?_ | refine below_drewN ?_ _)); done) | (refine below_step U1.out ?_; (repeat (first | exact Below.refl _ _ | refine below_alloc ?_ _ | refine below_drew ?_ | refine below_drewN ?_ _)); done)) b2); have U2t := Lib.hid b2; clear o2 b2))
          | (go_at_call 21; go_must (refine (sameS_is E1 E2 f1 f2 T _ ?_ ?_).mono ?_; (focus (first | exact V1.out | exact V1.out.below U2t.out | exact (V1.out.drewN 1).below U2t.out)); (focus (first | exact V2.out | exact V2.out.below U1t.out | exact (V2.out.drewN 1).below U1t.out)); rintro e v3 ⟨rfl, n3, rfl⟩)))
      all_goals go_wp2
      all_goals go_ret
      all_goals exact ⟨rfl, by first | exact below_drewN (below_step (below_step B2.out HJ.out) U2.out) _ | exact below_drewN (below_step (below_step B2.out HJ.out) U1.out) _⟩
end Go.Proofs.Ytkmmiiaadoinpaa.Mar
