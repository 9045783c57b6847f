/- BookOld. -/
import Derived.Test.YtjehhpppihmpgaaBooO
namespace Go.Proofs.Ytjehhpppihmpgaa.Boo
open Go.RowKit Go.Proofs.Ytjehhpppihmpgaa.Mem

/-- What Expire makes of a book. -/
def Ex (xs : List Slot) (n : Nat) (now most : Int) (D : List Slot) (m : Nat) : Prop := xs.length = n ∧ n ≤ 8 ∧ expL most now xs = D ∧ D.length = m
theorem ex_at {xs D : List Slot} {n m : Nat} {now most : Int} (h : Ex xs n now most D m) (A : Option Addr) (c : Nat) (W : World) (a b : Int) (ha : a = now) (hb : b = most) (hA : dL.At W A c xs) :
    Calls Try.prog 17 #[.slice A n c, .int .i64 a, .int .i64 b] W (MadeA dL W.heap.size W D m) := by
  obtain ⟨h1, h2, h3, h4⟩ := h
  subst ha hb h3 h4
  exact expire_any A c n xs h1 a b W hA (by omega)
theorem laterI_small {t b : Int} (h0 : 0 ≤ t) (h1 : t ≤ 1000) (h2 : 0 ≤ b) (h3 : b ≤ 1000) : laterI t b = t + b := by
  unfold laterI tickI
  rw [if_neg (by omega), if_neg (by omega), if_neg (by omega), if_neg (by omega), if_neg (by omega)]
theorem oldB_small {x : Slot} (hx : OkS x) {most now : Int} (h2 : 0 ≤ most) (h3 : most ≤ 1000) : oldB most now x = decide (x.t + most < now) := by
  unfold oldB
  rw [laterI_small hx.2.2.2.1 hx.2.2.2.2 h2 h3]
theorem old_facts (L : List Slot) (n : Nat) (hn : L.length = n) (hG : Good L) (k m o : Int) (hm : 0 ≤ m ∧ m < 30) (ho : 0 ≤ o ∧ o < 20) :
    ∃ (X Y Z : List Slot) (nx ny nz : Nat), X.length = nx ∧ Y.length = ny ∧ ny ≤ nx ∧ nx ≤ nz ∧ nz ≤ 8 ∧ n ≤ 8 ∧ Ex L n k m X nx ∧ Ex L n (k + o) m Y ny ∧ Ex L n k (m + o) Z nz ∧ Ex X nx k m X nx ∧ Ex X nx (k + o) m Y ny ∧ Ex L n 0 0 L n ∧ Ex L n 1099511627776 0 [] 0 := by
  have hn8 : n ≤ 8 := hn ▸ hG.len
  have e1 : expL m (k + o) L = expL m (k + o) (expL m k L) := by
    unfold expL
    rw [List.filter_filter]
    refine List.filter_congr fun x hx => ?_
    have hx' := hG.ok x hx
    rw [oldB_small hx' hm.1 (by omega), oldB_small hx' hm.1 (by omega)]
    rw [Bool.eq_iff_iff]
    simp only [Bool.and_eq_true, Bool.not_eq_true', decide_eq_false_iff_not]
    omega
  have e2 : expL m k L = expL m k (expL (m + o) k L) := by
    unfold expL
    rw [List.filter_filter]
    refine List.filter_congr fun x hx => ?_
    have hx' := hG.ok x hx
    rw [oldB_small hx' hm.1 (by omega), oldB_small hx' (by omega) (by omega)]
    rw [Bool.eq_iff_iff]
    simp only [Bool.and_eq_true, Bool.not_eq_true', decide_eq_false_iff_not]
    omega
  have e3 : expL m k (expL m k L) = expL m k L := by
    unfold expL
    rw [List.filter_filter]
    refine List.filter_congr fun x _ => ?_
    simp
  have e4 : expL 0 0 L = L := by
    unfold expL
    rw [List.filter_eq_self]
    intro x hx
    have hx' := hG.ok x hx
    rw [oldB_small hx' (by decide) (by decide)]
    have := hx'.2.2.2.1
    simp only [Bool.not_eq_true', decide_eq_false_iff_not]
    omega
  have e5 : expL 0 1099511627776 L = [] := by
    unfold expL
    rw [List.filter_eq_nil_iff]
    intro x hx
    have hx' := hG.ok x hx
    rw [oldB_small hx' (by decide) (by decide)]
    have := hx'.2.2.2.2
    simp only [Bool.not_eq_true', decide_eq_false_iff_not]
    omega
  have l1 : (expL m (k + o) L).length ≤ (expL m k L).length := by rw [e1]; exact List.length_filter_le _ _
  have l2 : (expL m k L).length ≤ (expL (m + o) k L).length := by rw [e2]; exact List.length_filter_le _ _
  have l3 : (expL (m + o) k L).length ≤ n := by rw [← hn]; exact List.length_filter_le _ _
  exact ⟨expL m k L, expL m (k + o) L, expL (m + o) k L, _, _, _, rfl, rfl, l1, l2, by omega, hn8, ⟨hn, hn8, rfl, rfl⟩, ⟨hn, hn8, rfl, rfl⟩, ⟨hn, hn8, rfl, rfl⟩, ⟨rfl, by omega, e3, rfl⟩, ⟨rfl, by omega, e1.symm, rfl⟩, ⟨hn, hn8, e4, hn⟩, ⟨hn, hn8, e5, rfl⟩⟩
set_option maxHeartbeats 4000000 in
theorem old_any (A : Option Addr) (c n : Nat) (rs : List Raw) (hn : rs.length = n) (now most more : Int) (w0 : I64 now) (w1 : I64 most) (w2 : I64 more) (w : World) (h : dR.At w A c rs) (hr : ∀ r ∈ rs, R64 r) :
    Calls Try.prog 6 #[.slice A n c, .int .i64 now, .int .i64 most, .int .i64 more] w (Ret (.bool true) w) := by
  have HK := Lib.hid (fun W hW => book_any A c n rs hn W hW hr)
  have H := Lib.hid h
  have b60 := pick_bd now 60 (by decide)
  have P60 : Pick now 60 (pickI now 60) := ⟨w0, by decide, rfl⟩
  have b30 := pick_bd most 30 (by decide)
  have P30 : Pick most 30 (pickI most 30) := ⟨w1, by decide, rfl⟩
  have b20 := pick_bd more 20 (by decide)
  have P20 : Pick more 20 (pickI more 20) := ⟨w2, by decide, rfl⟩
  generalize pickI now 60 = k at b60 P60
  generalize pickI most 30 = m at b30 P30
  generalize pickI more 20 = o at b20 P20
  clear h hr w0 w1 w2
  go_enter Try.func6, Try.ntmps6
  go_wp2_with (first
    | (go_at_call 10; refine (awake_any _).mono ?_; rintro e v1 ⟨rfl, hbel⟩; have B1 := Lib.hid hbel; have H1 := Lib.hid (H.out.below hbel); clear hbel)
    | (go_at_call 11; refine (HK.out _ H1.out).mono ?_; rintro e v0 ⟨A0, c0, n0, L, rfl, hat, hlen, hg, hbel⟩; have B_0 := Lib.hid (below_step B1.out hbel); have L_0 := Lib.hid hat; obtain ⟨X, Y, Z, nx, ny, nz, hX, hY, l1, l2, l3, l4, x1, x2, x3, x4, x5, x6, x7⟩ := old_facts L n0 hlen hg k m o b30 b20; have EX1 := Lib.hid x1; have EX2 := Lib.hid x2; have EX3 := Lib.hid x3; have EX4 := Lib.hid x4; have EX5 := Lib.hid x5; have EX6 := Lib.hid x6; have EX7 := Lib.hid x7; have NL := Lib.hid hlen; have NX := Lib.hid hX; have NY := Lib.hid hY; clear hat hlen hg hbel hX hY x1 x2 x3 x4 x5 x6 x7)
    | (go_at_call 13; refine (pick_of _ (by assumption)).mono ?_; rintro e w' ⟨rfl, rfl⟩))
  go_wp2_with (first
    | (go_at_call 13; refine (pick_of _ (by assumption)).mono ?_; rintro e w' ⟨rfl, rfl⟩)
    | (go_at_call 17; have Z := B_9; refine (ex_at EX7.out _ _ _ _ _ (by first | rfl | exact w64 (by omega) (by omega)) (by first | rfl | exact w64 (by omega) (by omega)) L_9.out).mono ?_; rintro e v10 ⟨A10, c10, rfl, hat, hbel⟩; have B_10 := Lib.hid (below_step B_9.out hbel); have L_10 := Lib.hid (L_9.out.below hbel); have X_10 := Lib.hid (X_9.out.below hbel); have Y_10 := Lib.hid (Y_9.out.below hbel); have Z_10 := Lib.hid (Z_9.out.below hbel); have U_10 := Lib.hid (U_9.out.below hbel); have V_10 := Lib.hid (V_9.out.below hbel); have T_10 := Lib.hid (T_9.out.below hbel); clear hat hbel)
    | (go_at_call 16; have Z := B_8; refine (same_yes2 _ _ _ _ _ _ _ _ NL.out NL.out rfl _ T_8.out L_8.out).mono ?_; rintro e v9 ⟨rfl, hbel⟩; have B_9 := Lib.hid (below_step B_8.out hbel); have L_9 := Lib.hid (L_8.out.below hbel); have X_9 := Lib.hid (X_8.out.below hbel); have Y_9 := Lib.hid (Y_8.out.below hbel); have Z_9 := Lib.hid (Z_8.out.below hbel); have U_9 := Lib.hid (U_8.out.below hbel); have V_9 := Lib.hid (V_8.out.below hbel); have T_9 := Lib.hid (T_8.out.below hbel); clear hbel)
    | (go_at_call 17; have Z := B_7; refine (ex_at EX6.out _ _ _ _ _ (by first | rfl | exact w64 (by omega) (by omega)) (by first | rfl | exact w64 (by omega) (by omega)) L_7.out).mono ?_; rintro e v8 ⟨A8, c8, rfl, hat, hbel⟩; have B_8 := Lib.hid (below_step B_7.out hbel); have L_8 := Lib.hid (L_7.out.below hbel); have X_8 := Lib.hid (X_7.out.below hbel); have Y_8 := Lib.hid (Y_7.out.below hbel); have Z_8 := Lib.hid (Z_7.out.below hbel); have U_8 := Lib.hid (U_7.out.below hbel); have V_8 := Lib.hid (V_7.out.below hbel); have T_8 := Lib.hid hat; clear hat hbel)
    | (go_at_call 16; have Z := B_6; refine (same_yes2 _ _ _ _ _ _ _ _ NY.out NY.out rfl _ V_6.out Y_6.out).mono ?_; rintro e v7 ⟨rfl, hbel⟩; have B_7 := Lib.hid (below_step B_6.out hbel); have L_7 := Lib.hid (L_6.out.below hbel); have X_7 := Lib.hid (X_6.out.below hbel); have Y_7 := Lib.hid (Y_6.out.below hbel); have Z_7 := Lib.hid (Z_6.out.below hbel); have U_7 := Lib.hid (U_6.out.below hbel); have V_7 := Lib.hid (V_6.out.below hbel); clear hbel)
    | (go_at_call 17; have Z := B_5; refine (ex_at EX5.out _ _ _ _ _ (by first | rfl | exact w64 (by omega) (by omega)) (by first | rfl | exact w64 (by omega) (by omega)) X_5.out).mono ?_; rintro e v6 ⟨A6, c6, rfl, hat, hbel⟩; have B_6 := Lib.hid (below_step B_5.out hbel); have L_6 := Lib.hid (L_5.out.below hbel); have X_6 := Lib.hid (X_5.out.below hbel); have Y_6 := Lib.hid (Y_5.out.below hbel); have Z_6 := Lib.hid (Z_5.out.below hbel); have U_6 := Lib.hid (U_5.out.below hbel); have V_6 := Lib.hid hat; clear hat hbel)
    | (go_at_call 16; have Z := B_4; refine (same_yes2 _ _ _ _ _ _ _ _ NX.out NX.out rfl _ U_4.out X_4.out).mono ?_; rintro e v5 ⟨rfl, hbel⟩; have B_5 := Lib.hid (below_step B_4.out hbel); have L_5 := Lib.hid (L_4.out.below hbel); have X_5 := Lib.hid (X_4.out.below hbel); have Y_5 := Lib.hid (Y_4.out.below hbel); have Z_5 := Lib.hid (Z_4.out.below hbel); have U_5 := Lib.hid (U_4.out.below hbel); clear hbel)
    | (go_at_call 17; have Z := B_3; refine (ex_at EX4.out _ _ _ _ _ (by first | rfl | exact w64 (by omega) (by omega)) (by first | rfl | exact w64 (by omega) (by omega)) X_3.out).mono ?_; rintro e v4 ⟨A4, c4, rfl, hat, hbel⟩; have B_4 := Lib.hid (below_step B_3.out hbel); have L_4 := Lib.hid (L_3.out.below hbel); have X_4 := Lib.hid (X_3.out.below hbel); have Y_4 := Lib.hid (Y_3.out.below hbel); have Z_4 := Lib.hid (Z_3.out.below hbel); have U_4 := Lib.hid hat; clear hat hbel)
    | (go_at_call 17; have Z := B_2; refine (ex_at EX3.out _ _ _ _ _ (by first | rfl | exact w64 (by omega) (by omega)) (by first | rfl | exact w64 (by omega) (by omega)) L_2.out).mono ?_; rintro e v3 ⟨A3, c3, rfl, hat, hbel⟩; have B_3 := Lib.hid (below_step B_2.out hbel); have L_3 := Lib.hid (L_2.out.below hbel); have X_3 := Lib.hid (X_2.out.below hbel); have Y_3 := Lib.hid (Y_2.out.below hbel); have Z_3 := Lib.hid hat; clear hat hbel)
    | (go_at_call 17; have Z := B_1; refine (ex_at EX2.out _ _ _ _ _ (by first | rfl | exact w64 (by omega) (by omega)) (by first | rfl | exact w64 (by omega) (by omega)) L_1.out).mono ?_; rintro e v2 ⟨A2, c2, rfl, hat, hbel⟩; have B_2 := Lib.hid (below_step B_1.out hbel); have L_2 := Lib.hid (L_1.out.below hbel); have X_2 := Lib.hid (X_1.out.below hbel); have Y_2 := Lib.hid hat; clear hat hbel)
    | (go_at_call 17; have Z := B_0; refine (ex_at EX1.out _ _ _ _ _ (by first | rfl | exact w64 (by omega) (by omega)) (by first | rfl | exact w64 (by omega) (by omega)) L_0.out).mono ?_; rintro e v1 ⟨A1, c1, rfl, hat, hbel⟩; have B_1 := Lib.hid (below_step B_0.out hbel); have L_1 := Lib.hid (L_0.out.below hbel); have X_1 := Lib.hid hat; clear hat hbel))
  go_ret
  exact ⟨rfl, B_10.out⟩
end Go.Proofs.Ytjehhpppihmpgaa.Boo
