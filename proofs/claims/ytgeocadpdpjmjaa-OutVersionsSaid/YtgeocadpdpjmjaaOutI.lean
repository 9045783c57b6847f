/- Contracts of Due and of awake. -/
import Derived.Test.YtgeocadpdpjmjaaOutH
namespace Go.Proofs.Ytgeocadpdpjmjaa.Out
open Go.RowKit Go.Proofs.Ytgeocadpdpjmjaa.Mem

def dI : En Int := ⟨fun n => [.int .i64 n], 1, by omega, fun _ => rfl, fun x u hu => by simp at hu; rcases hu with rfl; rfl⟩
theorem at_getI {w : World} {A : Option Addr} {c : Nat} {xs : List Int} (h : dI.At w A c xs) (k : Nat) (x : Int) (hx : xs[k]? = some x) :
    ∃ b off, A = some ⟨b, off, none⟩ ∧ b < w.heap.size ∧ w.cell? ⟨b, off + k, none⟩ = some (.int .i64 x) := by
  obtain ⟨b, off, hA, hlt, hc⟩ := h.get k x hx
  have h0 := hc 0 (by decide)
  have e : k * dI.sz + 0 = k := by show k * 1 + 0 = k; omega
  rw [e] at h0
  exact ⟨b, off, hA, hlt, h0⟩
theorem info3 : (Try.prog.info? 3).map (fun i => (i.zero, i.size, i.bytes)) = some (some (.int .i64 0), 1, 8) := by kernel_rfl
theorem at_oneI {W : World} {g : Nat} {n : Int} (h0 : W.cell? ⟨g, 0, none⟩ = some (.int .i64 n)) : dI.At W (some ⟨g, 0, none⟩) 1 [n] :=
  ⟨Nat.le_refl _, by omega, (fun e => by cases e), fun _ => ⟨g, 0, rfl, World.block_lt_of_cell? W _ h0, fun i hi => by
    have hi3 : i < 1 := hi
    match i, hi3 with
    | 0, _ => exact h0⟩⟩
def dueUp (L : List Outs) (now : Int) (k : Nat) : List Int := (List.range k).filterMap fun i => if dueB (L.getD i Z) now = true then some (i : Int) else none
theorem dueUp_yes (L : List Outs) (now : Int) (k : Nat) (x : Outs) (hx : L[k]? = some x) (h : dueB x now = true) : dueUp L now (k + 1) = dueUp L now k ++ [(k : Int)] := by
  unfold dueUp
  rw [List.range_succ, List.filterMap_append]
  simp [List.getD_eq_getElem?_getD, hx, h]
theorem dueUp_no (L : List Outs) (now : Int) (k : Nat) (x : Outs) (hx : L[k]? = some x) (h : dueB x now = false) : dueUp L now (k + 1) = dueUp L now k := by
  unfold dueUp
  rw [List.range_succ, List.filterMap_append]
  simp [List.getD_eq_getElem?_getD, hx, h]
theorem dueUp_len (L : List Outs) (now : Int) (k : Nat) : (dueUp L now k).length ≤ k := by
  unfold dueUp
  have := List.length_filterMap_le (fun i => if dueB (L.getD i Z) now = true then some (i : Int) else none) (List.range k)
  rwa [List.length_range] at this
def IsD (w : World) (ys : List Int) (r : Ending) (w' : World) : Prop := ∃ A c, r = .returned (.slice A ys.length c) ∧ dI.Own 3 w' w.heap.size A c ys ∧ Below w.heap.size w w'
set_option maxHeartbeats 1000000 in
theorem dueL_any (A : Option Addr) (c n : Nat) (L : List Outs) (hn : L.length = n) (now : Int) (w : World) (h : dO.At w A c L) (hb : n * 40 ≤ 140737488355328) :
    Calls Try.prog 11 #[.slice A n c, .int .i64 now] w (IsD w (dueUp L now n)) := by
  obtain ⟨i0, hi, iz, isz, iby⟩ := info_parts info3
  have H := Lib.hid h
  have hle : n ≤ c := by rw [← hn]; exact h.le
  have hmax := h.max
  have HN := Lib.hid hn
  clear h hn
  go_enter Try.func11, Try.ntmps11
  go_wp2
  go_loopw [4, 9] (fun v kk wr => ∃ (k : Nat) (A' : Option Addr) (c' : Nat) (ys : List Int), k ≤ n ∧ kk = .int .i64 k ∧ v = .slice A' ys.length c' ∧ Hid (ys = dueUp L now k) ∧ Hid (dI.Own 3 wr w.heap.size A' c' ys) ∧ Hid (Below w.heap.size w wr)) (fun _ kk _ => n - (intOf kk).toNat)
  case atStart => exact ⟨0, none, 0, [], Nat.zero_le _, rfl, rfl, rfl, En.Own.none_ _ _ _, Below.refl _ _⟩
  case round =>
    obtain ⟨k, A', c', ys, hk, rfl, rfl, HY, HO, HB⟩ := hrel
    by_cases hlt : k < n
    · have hx : L[k]? = some (L[k]'(by have := HN.out; omega)) := List.getElem?_eq_getElem _
      obtain ⟨b, off, rfl, hbl, c0, c1, c2, c3, c4⟩ := at_getO (H.out.below HB.out) k _ hx
      generalize L[k]'(by have := HN.out; omega) = x at c0 c1 c2 c3 c4 hx
      have HX := Lib.hid hx
      clear hx
      have hyl : ys.length ≤ k := by rw [HY.out]; exact dueUp_len _ _ _
      have hsz := HB.out.size
      have HD : Hid (∀ W, Calls Try.prog 23 #[.agg #[.int .i64 x.v, .int .i64 x.p, .int .i64 x.t, .int .i64 x.n, .int .i64 x.s], .int .i64 now] W (Ret (.bool (dueB x now)) W)) := Lib.hid (fun W => due_any x now W)
      cases hd : dueB x now with
      | false =>
        rw [hd] at HD
        have HD' := Lib.hid hd
        clear hd
        go_wp2_with (go_at_call 23; refine (HD.out _).mono ?_; rintro e w2 ⟨rfl, hbel⟩; have HB2 := Lib.hid hbel; clear hbel)
        refine ⟨⟨k + 1, A', c', ys, by omega, by go_num, rfl, Lib.hid (by rw [dueUp_no L now k x HX.out HD'.out]; exact HY.out), (HO.out.below (below_alloc (Below.refl _ _) _)).below HB2.out, below_step (below_alloc HB.out _) HB2.out⟩, ?_⟩
        simp [intOf]; omega
      | true =>
        rw [hd] at HD
        have HD' := Lib.hid hd
        clear hd
        go_wp2_with (first
          | (go_at_call 23; refine (HD.out _).mono ?_; rintro e w2 ⟨rfl, hbel⟩; have hz2 : w.heap.size ≤ w2.heap.size := (by have := hbel.size; simp at this; omega); have HB2 := Lib.hid hbel; clear hbel)
          | (at_builtin; refine wpList_app dI _ rfl _ _ 27 rfl w.heap.size 3 i0 _ 8 Try.underlying27 hi iz isz iby rfl A' c' ys.length ys rfl rfl ?own (some ⟨w2.heap.size, 0, none⟩) 1 1 [(k : Int)] rfl rfl ?at_ ?m1 ?m2 ?m3 ?_))
        case own => exact ((HO.out.below (below_alloc (Below.refl _ _) _)).below HB2.out).below (below_alloc (Below.refl _ _) _)
        case at_ => exact at_oneI (cell_new w2 _ _ _)
        case m1 => simp; omega
        case m2 => simp; omega
        case m3 => simp; omega
        intro A3 c3 w3 hown hg hat
        have HO3 := Lib.hid hown
        have HG := Lib.hid hg
        clear hown hg hat
        go_wp2
        refine ⟨⟨k + 1, A3, _, _, by omega, by go_num, slc (by simp), Lib.hid (by rw [dueUp_yes L now k x HX.out HD'.out, HY.out]), HO3.out, below_grown (below_alloc (below_step (below_alloc HB.out _) HB2.out) _) HG.out (fun q hq => (HO.out.row q hq).1)⟩, ?_⟩
        simp [intOf]; omega
    · obtain rfl : k = n := by omega
      go_wp2
      go_ret
      exact ⟨A', c', congrArg Ending.returned (slc (by rw [HY.out])), by rw [← HY.out]; exact HO.out, HB.out⟩

/-! awake. -/
def q1 : Outs := ⟨1, 500, 0, 3, 1⟩
def q2 : Outs := ⟨1, 500, 1, 5, 1⟩
def q3 : Outs := ⟨1, 500, 2, 9, 1⟩
def q4 : Outs := ⟨1, 500, 2, 9, 2⟩
theorem aw1 (A : Option Addr) (c : Nat) (W : World) (h : dO.At W A c [Z, Z]) : Calls Try.prog 13 #[.slice A 2 c, .int .i64 1, .int .i64 500, .int .i64 3] W (IsE W [Z, q1] 2 0) :=
  intend_any A c 1 2 [Z, Z] rfl Z 500 3 W h (by decide) rfl (by decide) (by decide) (by decide) (by decide)
theorem aw2 (A : Option Addr) (c : Nat) (W : World) (h : dO.At W A c [Z, q1]) : Calls Try.prog 12 #[.slice A 2 c, .int .i64 1, .int .i64 3] W (IsS W [Z, q2] 2 ⟨1, 1, 500⟩ true 0) :=
  send_any A c 1 2 [Z, q1] rfl q1 3 W h (by decide) rfl (by decide)
theorem aw3 (A : Option Addr) (c : Nat) (W : World) (h : dO.At W A c [Z, q2]) : Calls Try.prog 12 #[.slice A 2 c, .int .i64 1, .int .i64 4] W (IsS W [Z, q2] 2 ⟨0, 0, 0⟩ false 1) :=
  send_any A c 1 2 [Z, q2] rfl q2 4 W h (by decide) rfl (by decide)
theorem aw4 (A : Option Addr) (c : Nat) (W : World) (h : dO.At W A c [Z, q2]) : Calls Try.prog 12 #[.slice A 2 c, .int .i64 1, .int .i64 5] W (IsS W [Z, q3] 2 ⟨1, 1, 500⟩ true 0) :=
  send_any A c 1 2 [Z, q2] rfl q2 5 W h (by decide) rfl (by decide)
theorem aw5 (A : Option Addr) (c : Nat) (W : World) (h : dO.At W A c [Z, q3]) : Calls Try.prog 15 #[.slice A 2 c, .int .i64 1, .int .i64 1] W (IsB W [Z, q4] 2 true) :=
  ack_any A c 1 2 [Z, q3] rfl q3 1 true (by decide) W h (by decide) rfl
theorem aw6 (A : Option Addr) (c : Nat) (W : World) (h : dO.At W A c [Z, q3]) : Calls Try.prog 15 #[.slice A 2 c, .int .i64 1, .int .i64 2] W (IsB W [Z, q3] 2 false) :=
  ack_any A c 1 2 [Z, q3] rfl q3 2 false (by decide) W h (by decide) rfl
theorem aw7 (A : Option Addr) (c : Nat) (W : World) (h : dO.At W A c [Z, q1]) : Calls Try.prog 11 #[.slice A 2 c, .int .i64 3] W fun e w' => ∃ A' c', e = .returned (.slice A' 1 c') ∧ dI.Own 3 w' W.heap.size A' c' [1] ∧ Below W.heap.size W w' :=
  dueL_any A c 2 [Z, q1] rfl 3 W h (by decide)
def z2 : Array Value := #[.int .i64 0, .int .i64 0, .int .i64 0, .int .i64 0, .int .i64 0, .int .i64 0, .int .i64 0, .int .i64 0, .int .i64 0, .int .i64 0]
theorem mk2 (w : World) : (Instr.makeSlice 24 (.int .i64 2) (.int .i64 2)).run Try.prog w = .ok (.slice (some ⟨w.heap.size, 0, none⟩) 2 2) (w.alloc (.cells z2 35)) := mkO 2 (by decide) _ (by kernel_rfl) w
theorem litz2 (w : World) : dO.Own 35 (w.alloc (.cells z2 35)) w.heap.size (some ⟨w.heap.size, 0, none⟩) 2 [Z, Z] :=
  En.Own.lit dO w w.heap.size 35 z2 [Z, Z] (Nat.le_refl _) (by decide) rfl
def mB (s v p : Int) : Obj := .cells #[.int .i64 s, .int .i64 v, .int .i64 p] 30
set_option maxRecDepth 100000 in
set_option maxHeartbeats 4000000 in
theorem awake_any (w : World) : Calls Try.prog 8 #[] w fun e w' => e = .returned (.bool true) ∧ Below w.heap.size w w' := by
  have hmk := mk2
  go_enter Try.func8, Try.ntmps8
  go_wp2_with fail
  refine (aw1 _ _ _ (litz2 w).at_).mono ?_
  rintro e w1 ⟨A1, c1, rfl, o1, b1⟩
  have O1 := Lib.hid o1
  have B1 := Lib.hid (below_step (below_alloc (Below.refl _ _) _) b1)
  clear o1 b1 hmk
  go_wp2_with fail
  refine (aw2 _ _ _ O1.out.at_).mono ?_
  rintro e w2 ⟨A2, c2, rfl, o2, b2⟩
  have O2 := Lib.hid o2
  have B2 := Lib.hid (below_step B1.out b2)
  have N1 := Lib.hid (O1.out.at_.below b2)
  clear o2 b2
  go_wp2_with fail
  refine (aw3 _ _ _ (O2.out.at_.below (below_alloc (Below.refl _ _) _))).mono ?_
  rintro e w3 ⟨A3, c3, rfl, o3, b3⟩
  have T1 : Hid (Below w2.heap.size w2 w3) := below_step (below_alloc (Below.refl _ _) _) b3
  have m0 := below_cell b3 (cell_new w2 _ _ 0)
  have m1 := below_cell b3 (cell_new w2 _ _ 1)
  have m2 := below_cell b3 (cell_new w2 _ _ 2)
  clear o3 b3
  go_wp2_with fail
  refine (aw4 _ _ _ ((O2.out.at_.below T1.out).below (below_alloc (Below.refl _ _) _))).mono ?_
  rintro e w4 ⟨A4, c4, rfl, o4, b4⟩
  have O4 := Lib.hid o4
  have T2 : Hid (Below w3.heap.size w3 w4) := below_step (below_alloc (Below.refl _ _) _) b4
  clear o4 b4
  go_wp2_with fail
  refine (aw5 _ _ _ (O4.out.at_.below (below_alloc (Below.refl _ _) _))).mono ?_
  rintro e w5 ⟨A5, c5, rfl, o5, b5⟩
  have O5 := Lib.hid o5
  have T3 : Hid (Below w4.heap.size w4 w5) := below_step (below_alloc (Below.refl _ _) _) b5
  have n0 := below_cell b5 (cell_new w4 _ _ 0)
  have n1 := below_cell b5 (cell_new w4 _ _ 1)
  have n2 := below_cell b5 (cell_new w4 _ _ 2)
  clear o5 b5
  go_wp2_with fail
  refine (aw6 _ _ _ (O4.out.at_.below T3.out)).mono ?_
  rintro e w6 ⟨A6, c6, rfl, o6, b6⟩
  have T4 := Lib.hid b6
  clear o6 b6
  go_wp2_with fail
  refine (aw7 _ _ _ ((((N1.out.below T1.out).below T2.out).below T3.out).below T4.out)).mono ?_
  rintro e w7 ⟨A7, c7, rfl, o7, b7⟩
  have O7 := Lib.hid o7
  have T5 := Lib.hid b7
  clear o7 b7
  have U3 := below_step T4.out T5.out
  have U2 := below_step T3.out U3
  have U1 := below_step T2.out U2
  have U0 := below_step T1.out U1
  obtain ⟨g2, rfl, _, l2, _, _, _, p2, _⟩ := own_getO O2.out 1 q2 rfl
  obtain ⟨g4, rfl, _, l4, _, _, _, p4, _⟩ := own_getO O4.out 1 q3 rfl
  obtain ⟨g5, rfl, _, l5, _, _, _, _, p5⟩ := own_getO O5.out 1 q4 rfl
  obtain ⟨g7, o7, rfl, l7, p7⟩ := at_getI O7.out.at_ 0 1 rfl
  obtain ⟨rfl, _, _⟩ := own_at0 O7.out
  have s2 : w7.cell? ⟨g2, 8, none⟩ = some (.int .i64 5) := below_cell U0 p2
  have s4 : w7.cell? ⟨g4, 8, none⟩ = some (.int .i64 9) := below_cell U2 p4
  have s5 : w7.cell? ⟨g5, 9, none⟩ = some (.int .i64 2) := below_cell U3 p5
  have s7 : w7.cell? ⟨g7, 0, none⟩ = some (.int .i64 1) := p7
  have k0 : w7.cell? ⟨w2.heap.size, 0, none⟩ = some (.int .i64 1) := below_cell U1 m0
  have k1 : w7.cell? ⟨w2.heap.size, 1, none⟩ = some (.int .i64 1) := below_cell U1 m1
  have k2 : w7.cell? ⟨w2.heap.size, 2, none⟩ = some (.int .i64 500) := below_cell U1 m2
  have j0 : w7.cell? ⟨w4.heap.size, 0, none⟩ = some (.int .i64 1) := below_cell U3 n0
  have j1 : w7.cell? ⟨w4.heap.size, 1, none⟩ = some (.int .i64 1) := below_cell U3 n1
  have j2 : w7.cell? ⟨w4.heap.size, 2, none⟩ = some (.int .i64 500) := below_cell U3 n2
  have BB := Lib.hid (below_step B2.out U0)
  clear p2 p4 p5 p7 m0 m1 m2 n0 n1 n2 U0 U1 U2 U3 l2 l4 l5 l7
  go_wp2_with fail
  go_ret
  exact ⟨rfl, BB.out⟩
end Go.Proofs.Ytgeocadpdpjmjaa.Out
