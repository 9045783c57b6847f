/- BookSources. -/
import Derived.Test.YtjehhpppihmpgaaBooT
namespace Go.Proofs.Ytjehhpppihmpgaa.Boo
open Go.RowKit Go.Proofs.Ytjehhpppihmpgaa.Mem

structure Two where
  a : Int
  b : Int
def dP : En Two := ⟨fun m => [.int .i64 m.a, .int .i64 m.b], 2, by omega, fun _ => rfl, fun x u hu => by simp at hu; rcases hu with rfl | rfl <;> rfl⟩
def T64 (r : Two) : Prop := I64 r.a ∧ I64 r.b
theorem at_getP {w : World} {A : Option Addr} {c : Nat} {xs : List Two} (h : dP.At w A c xs) (k : Nat) (x : Two) (hx : xs[k]? = some x) :
    ∃ b off, A = some ⟨b, off, none⟩ ∧ b < w.heap.size ∧ w.cell? ⟨b, off + k * 2, none⟩ = some (.int .i64 x.a) ∧ w.cell? ⟨b, off + k * 2 + 1, none⟩ = some (.int .i64 x.b) := by
  obtain ⟨b, off, hA, hlt, hc⟩ := h.get k x hx
  exact ⟨b, off, hA, hlt, hc 0 (by decide), hc 1 (by decide)⟩
set_option maxRecDepth 100000 in
set_option maxHeartbeats 8000000 in
theorem sources_any (A0 : Option Addr) (c0 n0 : Nat) (xs : List Seen) (hn0 : xs.length = n0) (hb0 : n0 * 24 ≤ 140737488355328) (A : Option Addr) (c n : Nat) (rs : List Two) (hn : rs.length = n) (src : ByteArray) (hsrc : src.size ≤ 9223372036854775807) (seq : Int) (w : World)
    (h0 : dN.At w A0 c0 xs) (h : dP.At w A c rs) (hr : ∀ r ∈ rs, T64 r) :
    Calls Try.prog 4 #[.slice A0 n0 c0, .slice A n c, .string src, .int .i64 seq] w (Ret (.bool true) w) := by
  have H := Lib.hid h
  have H0 := Lib.hid h0
  have hle : n ≤ c := by rw [← hn]; exact h.le
  have hmax := h.max
  have HR := Lib.hid hr
  have HN := Lib.hid hn
  obtain ⟨D0, k0, b0, e0, hD0, _, F0, G0⟩ := fresh_two n0 xs hn0 src seq hb0 hsrc
  have FX := Lib.hid F0
  have GX := Lib.hid G0
  have NX := Lib.hid hD0
  clear h h0 hr hn hn0 F0 G0 hD0
  go_enter Try.func4, Try.ntmps4
  go_wp2_with (go_at_call 10; refine (awake_any _).mono ?_; rintro e w1 ⟨rfl, hbel⟩; have B1 := Lib.hid hbel; clear hbel)
  go_loopw [10, 11] (fun lv iv wr => ∃ (i k : Nat) (A' : Option Addr) (c' : Nat) (L : List Seen), i ≤ n ∧ i ≤ 40 ∧ iv = .int .i64 i ∧ lv = .slice A' k c' ∧ k ≤ 8 ∧ Hid (L.length = k) ∧ Hid (dN.At wr A' c' L) ∧ Hid (Below w.heap.size w wr)) (fun _ iv _ => 40 - (intOf iv).toNat)
  case atStart => exact ⟨0, 0, none, 0, [], Nat.zero_le _, Nat.zero_le _, rfl, rfl, by omega, Lib.hid rfl, Lib.hid En.At.none_, B1⟩
  case round =>
    obtain ⟨i, k, A', c', L, hi, h40, rfl, rfl, hk8, HL, HA, HB⟩ := hrel
    by_cases hlt : i < n ∧ i < 40
    · obtain ⟨hl1, hl2⟩ := hlt
      have g1 : decide ((i : Int) < 40) = true := decide_eq_true (by omega)
      have hx : rs[i]? = some (rs[i]'(by have := HN.out; omega)) := List.getElem?_eq_getElem _
      have hg := HR.out _ (List.getElem_mem (by have := HN.out; omega : i < rs.length))
      obtain ⟨b, off, rfl, hbl, c0', c1'⟩ := at_getP (H.out.below HB.out) i _ hx
      generalize rs[i]'(by have := HN.out; omega) = x at c0' c1' hg
      clear hx
      obtain ⟨r0, r1⟩ := hg
      obtain ⟨s, hs, hsz, HS⟩ := sell x.a r0
      have HS2 := Lib.hid HS
      have b50 := pick_bd x.b 50 (by decide)
      have P50 : Pick x.b 50 (pickI x.b 50) := ⟨r1, by decide, rfl⟩
      generalize pickI x.b 50 = p at b50 P50
      obtain ⟨D, kd, bd, ed, hD, hd8, F1, G1⟩ := fresh_two k L HL.out s (1 + p) (by omega) (by omega)
      have hkd := hd8 hk8
      have FA := Lib.hid (fun A c W (a : Int) (ha : a = 1 + p) hA => (by subst ha; exact F1 A c W hA : Calls Try.prog 23 #[.slice A k c, .string s, .int .i64 a] W (MadeF W D kd bd ed)))
      have GA := Lib.hid (fun A c W (a : Int) (ha : a = 1 + p) hA => (by subst ha; exact G1 A c W hA : Calls Try.prog 24 #[.slice A k c, .string s, .int .i64 a] W (MadeF W D kd bd ed)))
      have ND := Lib.hid hD
      have ge : (ed != ed) = false := by simp
      have gb : (bd != bd) = false := by simp
      clear HS r0 r1 F1 G1 hD hd8 hs
      by_cases he : ed = 0
      · subst he
        go_wp2_with (first
          | (go_at_call 12; refine (HS2.out _).mono ?_; rintro e v1 ⟨rfl, hbel⟩; have B2 := Lib.hid (below_step HB.out hbel); have L2 := Lib.hid (HA.out.below hbel); have d0 := below_cell hbel c0'; have d1 := below_cell hbel c1'; have hbl1 := Nat.lt_of_lt_of_le hbl hbel.size; clear hbel)
          | (go_at_call 13; refine (pick_of _ (by assumption)).mono ?_; rintro e w' ⟨rfl, rfl⟩)
          | (go_at_call 23; refine (FA.out _ _ _ _ (by first | rfl | exact w64 (by omega) (by omega)) L2.out).mono ?_; rintro e v3 ⟨A3, c3, rfl, hat, hbel⟩; have B3 := Lib.hid (below_step B2.out hbel); have L3 := Lib.hid (L2.out.below hbel); have D3 := Lib.hid hat; clear hat hbel)
          | (go_at_call 24; refine (GA.out _ _ _ _ (by first | rfl | exact w64 (by omega) (by omega)) L3.out).mono ?_; rintro e v4 ⟨A4, c4, rfl, hat, hbel⟩; have B4 := Lib.hid (below_step B3.out hbel); have L4 := Lib.hid (L3.out.below hbel); have D4 := Lib.hid (D3.out.below hbel); have E4 := Lib.hid hat; clear hat hbel)
          | (go_at_call 25; refine (sameN_yes _ _ _ _ _ _ ND.out _ D4.out E4.out).mono ?_; rintro e v5 ⟨rfl, hbel⟩; have B5 := Lib.hid (below_step B4.out hbel); have L5 := Lib.hid (L4.out.below hbel); have D5 := Lib.hid (D4.out.below hbel); clear hbel))
        go_roundw
        case rel => first | exact ⟨i + 1, kd, A3, c3, D, by omega, by omega, by go_num, rfl, hkd, ND, D5, B5⟩ | ((repeat apply Exists.intro); exact ⟨⟨i + 1, kd, A3, c3, D, by omega, by omega, by go_num, rfl, hkd, ND, D5, B5⟩, rfl⟩)
        case measure => simp [intOf]; omega
      · have g2 : (ed == 0) = false := by simp; exact he
        go_wp2_with (first
          | (go_at_call 12; refine (HS2.out _).mono ?_; rintro e v1 ⟨rfl, hbel⟩; have B2 := Lib.hid (below_step HB.out hbel); have L2 := Lib.hid (HA.out.below hbel); have d0 := below_cell hbel c0'; have d1 := below_cell hbel c1'; have hbl1 := Nat.lt_of_lt_of_le hbl hbel.size; clear hbel)
          | (go_at_call 13; refine (pick_of _ (by assumption)).mono ?_; rintro e w' ⟨rfl, rfl⟩)
          | (go_at_call 23; refine (FA.out _ _ _ _ (by first | rfl | exact w64 (by omega) (by omega)) L2.out).mono ?_; rintro e v3 ⟨A3, c3, rfl, hat, hbel⟩; have B3 := Lib.hid (below_step B2.out hbel); have L3 := Lib.hid (L2.out.below hbel); have D3 := Lib.hid hat; clear hat hbel)
          | (go_at_call 24; refine (GA.out _ _ _ _ (by first | rfl | exact w64 (by omega) (by omega)) L3.out).mono ?_; rintro e v4 ⟨A4, c4, rfl, hat, hbel⟩; have B4 := Lib.hid (below_step B3.out hbel); have L4 := Lib.hid (L3.out.below hbel); have D4 := Lib.hid (D3.out.below hbel); have E4 := Lib.hid hat; clear hat hbel)
          | (go_at_call 25; refine (sameN_yes _ _ _ _ _ _ ND.out _ D4.out E4.out).mono ?_; rintro e v5 ⟨rfl, hbel⟩; have B5 := Lib.hid (below_step B4.out hbel); have L5 := Lib.hid (L4.out.below hbel); have D5 := Lib.hid (D4.out.below hbel); clear hbel))
        go_roundw
        case rel => first | exact ⟨i + 1, k, A', c', L, by omega, by omega, by go_num, rfl, hk8, HL, L5, B5⟩ | ((repeat apply Exists.intro); exact ⟨⟨i + 1, k, A', c', L, by omega, by omega, by go_num, rfl, hk8, HL, L5, B5⟩, rfl⟩)
        case measure => simp [intOf]; omega
    · obtain ⟨D2, k2, b2, e2, hD2, _, F2, G2⟩ := fresh_two k L HL.out src seq (by omega) hsrc
      have FY := Lib.hid F2
      have GY := Lib.hid G2
      have NY := Lib.hid hD2
      have ge0 : (e0 != e0) = false := by simp
      have gb0 : (b0 != b0) = false := by simp
      have ge2 : (e2 != e2) = false := by simp
      have gb2 : (b2 != b2) = false := by simp
      have HX := Lib.hid (H0.out.below HB.out)
      clear F2 G2 hD2
      have hout : ¬ (i < n) ∨ (i < n ∧ decide ((i : Int) < 40) = false) := by
        by_cases h1 : i < n
        · exact .inr ⟨h1, decide_eq_false (by omega)⟩
        · exact .inl h1
      rcases hout with hout | ⟨hl1, g1⟩
      · go_wp2
        obtain ⟨V, hV⟩ : ∃ V, V = wr.alloc (.cells #[.slice A0 n0 c0, .slice A' k c'] 43) := ⟨_, rfl⟩
        obtain ⟨g, hg⟩ : ∃ g, g = wr.heap.size := ⟨_, rfl⟩
        have q0 : V.cell? ⟨g, 0, none⟩ = some (.slice A0 n0 c0) := by rw [hV, hg]; exact cell_new wr _ 43 0
        have q1 : V.cell? ⟨g, 1, none⟩ = some (.slice A' k c') := by rw [hV, hg]; exact cell_new wr _ 43 1
        have HX2 : Hid (dN.At V A0 c0 xs) := Lib.hid (by rw [hV]; exact HX.out.below (below_alloc (Below.refl _ _) _))
        have HY2 : Hid (dN.At V A' c' L) := Lib.hid (by rw [hV]; exact HA.out.below (below_alloc (Below.refl _ _) _))
        have HBV : Hid (Below w.heap.size w V) := Lib.hid (by rw [hV]; exact below_alloc HB.out _)
        rw [← hV, ← hg]
        clear hV hg HX HA
        go_loopw [89] (fun iv wq => ∃ j : Nat, j ≤ 2 ∧ iv = .int .i64 j ∧ Hid (Below V.heap.size V wq)) (fun iv _ => 2 - (intOf iv).toNat)
        case atStart => exact ⟨0, by omega, rfl, Below.refl _ _⟩
        case round =>
        obtain ⟨j, hj, rfl, HB⟩ := hrel
        have y0 := below_cell HB.out q0
        have y1 := below_cell HB.out q1
        have hj3 : j = 0 ∨ j = 1 ∨ j = 2 := by omega
        rcases hj3 with rfl | rfl | rfl
        · have hA' := HX2.out.below HB.out
          go_wp2_with (first
            | (go_at_call 23; refine (FX.out _ _ _ hA').mono ?_; rintro e v3 ⟨A3, c3, rfl, hat, hbel⟩; have B3 := Lib.hid (below_step HB.out hbel); have X3 := Lib.hid (hA'.below hbel); have D3 := Lib.hid hat; have z0 := below_cell hbel y0; have z1 := below_cell hbel y1; clear hat hbel)
            | (go_at_call 24; refine (GX.out _ _ _ X3.out).mono ?_; rintro e v4 ⟨A4, c4, rfl, hat, hbel⟩; have B4 := Lib.hid (below_step B3.out hbel); have D4 := Lib.hid (D3.out.below hbel); have E4 := Lib.hid hat; clear hat hbel)
            | (go_at_call 25; refine (sameN_yes _ _ _ _ _ _ NX.out _ D4.out E4.out).mono ?_; rintro e v5 ⟨rfl, hbel⟩; have B5 := Lib.hid (below_step B4.out hbel); clear hbel))
          go_roundw
          case rel => first | exact ⟨1, by omega, by first | rfl | go_num, B5⟩ | ((repeat apply Exists.intro); exact ⟨⟨1, by omega, by first | rfl | go_num, B5⟩, rfl⟩)
          case measure => simp [intOf]
        · have hA' := HY2.out.below HB.out
          go_wp2_with (first
            | (go_at_call 23; refine (FY.out _ _ _ hA').mono ?_; rintro e v3 ⟨A3, c3, rfl, hat, hbel⟩; have B3 := Lib.hid (below_step HB.out hbel); have X3 := Lib.hid (hA'.below hbel); have D3 := Lib.hid hat; have z0 := below_cell hbel y0; have z1 := below_cell hbel y1; clear hat hbel)
            | (go_at_call 24; refine (GY.out _ _ _ X3.out).mono ?_; rintro e v4 ⟨A4, c4, rfl, hat, hbel⟩; have B4 := Lib.hid (below_step B3.out hbel); have D4 := Lib.hid (D3.out.below hbel); have E4 := Lib.hid hat; clear hat hbel)
            | (go_at_call 25; refine (sameN_yes _ _ _ _ _ _ NY.out _ D4.out E4.out).mono ?_; rintro e v5 ⟨rfl, hbel⟩; have B5 := Lib.hid (below_step B4.out hbel); clear hbel))
          go_roundw
          case rel => first | exact ⟨2, by omega, by first | rfl | go_num, B5⟩ | ((repeat apply Exists.intro); exact ⟨⟨2, by omega, by first | rfl | go_num, B5⟩, rfl⟩)
          case measure => simp [intOf]
        · go_wp2
          go_ret
          exact ⟨rfl, below_then HBV.out (HBV.out.size) HB.out⟩
      · go_wp2
        obtain ⟨V, hV⟩ : ∃ V, V = wr.alloc (.cells #[.slice A0 n0 c0, .slice A' k c'] 43) := ⟨_, rfl⟩
        obtain ⟨g, hg⟩ : ∃ g, g = wr.heap.size := ⟨_, rfl⟩
        have q0 : V.cell? ⟨g, 0, none⟩ = some (.slice A0 n0 c0) := by rw [hV, hg]; exact cell_new wr _ 43 0
        have q1 : V.cell? ⟨g, 1, none⟩ = some (.slice A' k c') := by rw [hV, hg]; exact cell_new wr _ 43 1
        have HX2 : Hid (dN.At V A0 c0 xs) := Lib.hid (by rw [hV]; exact HX.out.below (below_alloc (Below.refl _ _) _))
        have HY2 : Hid (dN.At V A' c' L) := Lib.hid (by rw [hV]; exact HA.out.below (below_alloc (Below.refl _ _) _))
        have HBV : Hid (Below w.heap.size w V) := Lib.hid (by rw [hV]; exact below_alloc HB.out _)
        rw [← hV, ← hg]
        clear hV hg HX HA
        go_loopw [89] (fun iv wq => ∃ j : Nat, j ≤ 2 ∧ iv = .int .i64 j ∧ Hid (Below V.heap.size V wq)) (fun iv _ => 2 - (intOf iv).toNat)
        case atStart => exact ⟨0, by omega, rfl, Below.refl _ _⟩
        case round =>
        obtain ⟨j, hj, rfl, HB⟩ := hrel
        have y0 := below_cell HB.out q0
        have y1 := below_cell HB.out q1
        have hj3 : j = 0 ∨ j = 1 ∨ j = 2 := by omega
        rcases hj3 with rfl | rfl | rfl
        · have hA' := HX2.out.below HB.out
          go_wp2_with (first
            | (go_at_call 23; refine (FX.out _ _ _ hA').mono ?_; rintro e v3 ⟨A3, c3, rfl, hat, hbel⟩; have B3 := Lib.hid (below_step HB.out hbel); have X3 := Lib.hid (hA'.below hbel); have D3 := Lib.hid hat; have z0 := below_cell hbel y0; have z1 := below_cell hbel y1; clear hat hbel)
            | (go_at_call 24; refine (GX.out _ _ _ X3.out).mono ?_; rintro e v4 ⟨A4, c4, rfl, hat, hbel⟩; have B4 := Lib.hid (below_step B3.out hbel); have D4 := Lib.hid (D3.out.below hbel); have E4 := Lib.hid hat; clear hat hbel)
            | (go_at_call 25; refine (sameN_yes _ _ _ _ _ _ NX.out _ D4.out E4.out).mono ?_; rintro e v5 ⟨rfl, hbel⟩; have B5 := Lib.hid (below_step B4.out hbel); clear hbel))
          go_roundw
          case rel => first | exact ⟨1, by omega, by first | rfl | go_num, B5⟩ | ((repeat apply Exists.intro); exact ⟨⟨1, by omega, by first | rfl | go_num, B5⟩, rfl⟩)
          case measure => simp [intOf]
        · have hA' := HY2.out.below HB.out
          go_wp2_with (first
            | (go_at_call 23; refine (FY.out _ _ _ hA').mono ?_; rintro e v3 ⟨A3, c3, rfl, hat, hbel⟩; have B3 := Lib.hid (below_step HB.out hbel); have X3 := Lib.hid (hA'.below hbel); have D3 := Lib.hid hat; have z0 := below_cell hbel y0; have z1 := below_cell hbel y1; clear hat hbel)
            | (go_at_call 24; refine (GY.out _ _ _ X3.out).mono ?_; rintro e v4 ⟨A4, c4, rfl, hat, hbel⟩; have B4 := Lib.hid (below_step B3.out hbel); have D4 := Lib.hid (D3.out.below hbel); have E4 := Lib.hid hat; clear hat hbel)
            | (go_at_call 25; refine (sameN_yes _ _ _ _ _ _ NY.out _ D4.out E4.out).mono ?_; rintro e v5 ⟨rfl, hbel⟩; have B5 := Lib.hid (below_step B4.out hbel); clear hbel))
          go_roundw
          case rel => first | exact ⟨2, by omega, by first | rfl | go_num, B5⟩ | ((repeat apply Exists.intro); exact ⟨⟨2, by omega, by first | rfl | go_num, B5⟩, rfl⟩)
          case measure => simp [intOf]
        · go_wp2
          go_ret
          exact ⟨rfl, below_then HBV.out (HBV.out.size) HB.out⟩
end Go.Proofs.Ytjehhpppihmpgaa.Boo
