/- BookLast. -/
import Derived.Test.YtjehhpppihmpgaaBooR
namespace Go.Proofs.Ytjehhpppihmpgaa.Boo
open Go.RowKit Go.Proofs.Ytjehhpppihmpgaa.Mem

set_option maxHeartbeats 8000000 in
theorem last_any (A : Option Addr) (c n : Nat) (rs : List Raw) (hn : rs.length = n) (one two price now : Int) (w0 : I64 one) (w1 : I64 two) (w2 : I64 price) (w3 : I64 now) (w : World) (h : dR.At w A c rs) (hr : ∀ r ∈ rs, R64 r) :
    Calls Try.prog 5 #[.slice A n c, .int .i64 one, .int .i64 two, .int .i64 price, .int .i64 now] w (Ret (.bool true) w) := by
  have HK := Lib.hid (fun W hW => book_any A c n rs hn W hW hr)
  have H := Lib.hid h
  obtain ⟨s, hs, hsz, HS0⟩ := sell one w0
  obtain ⟨t, ht, htz, HT0⟩ := sell two w1
  have HS := Lib.hid HS0
  have HT := Lib.hid HT0
  have b25 := pick_bd price 2500 (by decide)
  have P25 : Pick price 2500 (pickI price 2500) := ⟨w2, by decide, rfl⟩
  have b10 := pick_bd now 1000 (by decide)
  have P10 : Pick now 1000 (pickI now 1000) := ⟨w3, by decide, rfl⟩
  generalize pickI price 2500 = p at b25 P25
  generalize pickI now 1000 = k at b10 P10
  have O1 : Hid (OkS ⟨s, 1 + p, k⟩) := Lib.hid ⟨hs, hsz, ⟨by show 1 ≤ 1 + p; omega, by show 1 + p ≤ 2501; omega⟩, by show 0 ≤ k; omega, by show k ≤ 1000; omega⟩
  have O2 : Hid (OkS ⟨t, 1 + p + 1, k⟩) := Lib.hid ⟨ht, htz, ⟨by show 1 ≤ 1 + p + 1; omega, by show 1 + p + 1 ≤ 2501; omega⟩, by show 0 ≤ k; omega, by show k ≤ 1000; omega⟩
  clear h hr w0 w1 w2 w3 HS0 HT0 hs ht hsz htz
  go_enter Try.func5, Try.ntmps5
  go_wp2_with (first
    | (go_at_call 10; refine (awake_any _).mono ?_; rintro e v1 ⟨rfl, hbel⟩; have B1 := Lib.hid hbel; have H1 := Lib.hid (H.out.below hbel); clear hbel)
    | (go_at_call 11; refine (HK.out _ H1.out).mono ?_; rintro e v0 ⟨A0, c0, n0, L, rfl, hat, hlen, hg, hbel⟩; have C0 := Lib.hid (below_step B1.out hbel); have L0 := Lib.hid hat; have NL := Lib.hid hlen; have GL := Lib.hid hg; have l8 := hlen ▸ hg.len; clear hat hlen hg hbel)
    | (go_at_call 12; have Z := C1; refine (HT.out _).mono ?_; rintro e v3 ⟨rfl, hbel⟩; have C2 := Lib.hid (below_step C1.out hbel); have L2 := Lib.hid (L1.out.below hbel); clear hbel HT)
    | (go_at_call 12; refine (HS.out _).mono ?_; rintro e v2 ⟨rfl, hbel⟩; have C1 := Lib.hid (below_step C0.out hbel); have L1 := Lib.hid (L0.out.below hbel); clear hbel)
    | (go_at_call 13; refine (pick_of _ (by assumption)).mono ?_; rintro e w' ⟨rfl, rfl⟩))
  obtain ⟨X, hX⟩ : ∃ X, putL (soS s) ⟨s, 1 + p, k⟩ 8 L = X := ⟨_, rfl⟩
  obtain ⟨nx, hnx⟩ : ∃ nx, X.length = nx := ⟨_, rfl⟩
  cases hb1 : putB (soS s) 8 L with
  | false =>
    have e8 : n0 = 8 := by rw [← NL.out]; exact full_len GL.out hb1
    subst e8
    have PA := Lib.hid (fun A c W x y hx hy2 hA => put_at L 8 NL.out (by decide) s (1 + p) k O1.out false hb1 X hX nx hnx A c W x y hx hy2 hA)
    clear hb1 hX hnx
    go_wp2_with (go_at_call 14; refine (PA.out _ _ _ _ _ (by first | rfl | exact w64 (by omega) (by omega)) (by first | rfl | exact w64 (by omega) (by omega)) L2.out).mono ?_; rintro e v4 ⟨A4, c4, rfl, hat, hbel⟩; have C3 := Lib.hid (below_step C2.out hbel); clear hat hbel)
    go_ret
    exact ⟨rfl, C3.out⟩
  | true =>
    have PA := Lib.hid (fun A c W x y hx hy2 hA => put_at L n0 NL.out l8 s (1 + p) k O1.out true hb1 X hX nx hnx A c W x y hx hy2 hA)
    have LX : Hid (LastD X s t (1 + p) k) := Lib.hid (hX ▸ last_one GL.out s t (1 + p) k O1.out hb1)
    have NX := Lib.hid hnx
    have nx8 : nx ≤ 8 := hnx ▸ LX.out.good.len
    have RX : Hid (∀ (A : Option Addr) (c : Nat) (W : World), dF.At W A c (offL X) → Calls Try.prog 26 #[.slice A nx c] W (Ret (.bool true) W)) := Lib.hid (fun A c W hA => right_yes A c nx (offL X) (by unfold offL; rw [List.length_map]; exact hnx) nx8 (off_good LX.out.good).1 (off_good LX.out.good).2 W hA)
    clear hb1 hX hnx
    refine (PA.out _ _ _ _ _ (by first | rfl | exact w64 (by omega) (by omega)) (by first | rfl | exact w64 (by omega) (by omega)) L2.out).mono ?_
    rintro e v4 ⟨A4, c4, rfl, hat, hbel⟩
    have C3 := Lib.hid (below_step C2.out hbel)
    have X3 := Lib.hid hat
    clear hat hbel
    go_wp2_with fail
    obtain ⟨Y, hY⟩ : ∃ Y, putL (soS t) ⟨t, 1 + p + 1, k⟩ 8 X = Y := ⟨_, rfl⟩
    obtain ⟨ny, hny⟩ : ∃ ny, Y.length = ny := ⟨_, rfl⟩
    cases hb2 : putB (soS t) 8 X with
    | true =>
      have PB := Lib.hid (fun A c W x y hx hy2 hA => put_at X nx NX.out nx8 t (1 + p + 1) k O2.out true hb2 Y hY ny hny A c W x y hx hy2 hA)
      have LD : Hid (LastD Y s t (1 + p) k) := Lib.hid (hY ▸ last_two s t (1 + p) (1 + p + 1) k LX.out O2.out hb2)
      have ND := Lib.hid hny
      have nd8 : ny ≤ 8 := hny ▸ LD.out.good.len
      clear hb2 hY hny
      go_wp2_with (go_at_call 14; refine (PB.out _ _ _ _ _ (by first | rfl | exact w64 (by omega) (by omega)) (by first | rfl | exact w64 (by omega) (by omega)) X3.out).mono ?_; rintro e v5 ⟨A5, c5, rfl, hat, hbel⟩; have C4 := Lib.hid (below_step C3.out hbel); have X4 := Lib.hid (X3.out.below hbel); have D4 := Lib.hid hat; clear hat hbel)
      have dc := drop_cnt (t := t) LD.out.good.nd
      have k1 := cnt_le (s := t) LD.out.good.nd
      have k2 := cnt_le (s := s) LD.out.good.nd
      have k3 : 0 < Y.countP (soS s) := by
        obtain ⟨x, hx, hs⟩ := LD.out.has
        exact List.countP_pos_iff.2 ⟨x, hx, hs⟩
      obtain ⟨G, hG⟩ : ∃ G, dropL t Y = G := ⟨_, rfl⟩
      obtain ⟨m, hm⟩ : ∃ m, G.length = m := ⟨_, rfl⟩
      rw [hG, hm, ND.out] at dc
      have PG := Lib.hid (fun A c W hA => drop_at A c ny m Y G ND.out t W hA (by omega) hG hm)
      obtain ⟨j1, hj1⟩ : ∃ j, Y.countP (soS s) = j := ⟨_, rfl⟩
      obtain ⟨j2, hj2⟩ : ∃ j, Y.countP (soS t) = j := ⟨_, rfl⟩
      rw [hj2] at dc k1
      rw [hj1] at k2 k3
      have J1 := Lib.hid hj1
      have J2 := Lib.hid hj2
      clear hG hm hj1 hj2
      go_wp2_with (go_at_call 19; refine (PG.out _ _ _ D4.out).mono ?_; rintro e v6 ⟨A6, c6, rfl, hat, hbel⟩; have C5 := Lib.hid (below_step C4.out hbel); have X5 := Lib.hid (X4.out.below hbel); have D5 := Lib.hid (D4.out.below hbel); clear hat hbel)
      have q1 := D5.out.le
      have q2 := D5.out.max
      rw [ND.out] at q1
      go_loopw [22, 23, 24] (fun mv tv iv wr => ∃ (i a b : Nat), i ≤ ny ∧ a ≤ i ∧ b ≤ i ∧ iv = .int .i64 i ∧ mv = .int .i64 a ∧ tv = .int .i64 b ∧ wr = v6 ∧ Hid ((Y.take i).countP (soS s) = a) ∧ Hid ((Y.take i).countP (soS t) = b)) (fun _ _ iv _ => ny - (intOf iv).toNat)
      case atStart => exact ⟨0, 0, 0, Nat.zero_le _, Nat.zero_le _, Nat.zero_le _, rfl, rfl, rfl, rfl, Lib.hid (by simp), Lib.hid (by simp)⟩
      case round =>
        obtain ⟨i, a, b, hi, hai, hbi, rfl, rfl, rfl, rfl, HA, HB⟩ := hrel
        by_cases hlt : i < ny
        · have hx : Y[i]? = some (Y[i]'(by have := ND.out; omega)) := List.getElem?_eq_getElem _
          have ho := LD.out.own _ (List.getElem_mem (by have := ND.out; omega : i < Y.length))
          obtain ⟨g, off, rfl, hbl, d0, d1, d2⟩ := at_getL D5.out i _ hx
          generalize Y[i]'(by have := ND.out; omega) = x at d0 d1 d2 hx ho
          have HA2 := Lib.hid (cnt_take (so := soS s) hx)
          have HB2 := Lib.hid (cnt_take (so := soS t) hx)
          rw [HA.out] at HA2
          rw [HB.out] at HB2
          clear hx
          have hq : ∀ W, (Op.equalIn 10000 50 (.agg #[.string x.s, .int .i64 x.p, .int .i64 x.t]) (.agg #[.string s, .int .i64 (1 + p), .int .i64 k])).run Try.prog W = .ok (slotB x ⟨s, 1 + p, k⟩) W := fun W => eqA50 W x ⟨s, 1 + p, k⟩
          cases h1 : soS s x with
          | true =>
            rw [h1] at HA2
            have g1 : (x.s.toList == s.toList) = true := h1
            cases h3 : eqS s t with
            | true =>
              have e := eqS_eq h3
              have g3 : (s.toList == t.toList) = true := h3
              have g2 : (x.s.toList == t.toList) = true := by rw [← e]; exact h1
              rw [show soS t x = true from g2] at HB2
              generalize slotB x ⟨s, 1 + p, k⟩ = r at hq
              clear h1 ho h3 e
              cases r with
              | true =>
                go_wp2
                go_roundw
                case rel => first | exact ⟨i + 1, a + 1, b + 1, by omega, by omega, by omega, by go_num, by first | rfl | go_num, by first | rfl | go_num, (by first | trivial | rfl), Lib.hid HA2.out, Lib.hid HB2.out⟩ | ((repeat apply Exists.intro); exact ⟨⟨i + 1, a + 1, b + 1, by omega, by omega, by omega, by go_num, by first | rfl | go_num, by first | rfl | go_num, (by first | trivial | rfl), Lib.hid HA2.out, Lib.hid HB2.out⟩, rfl⟩)
                case measure => simp [intOf]; omega
              | false =>
                go_wp2
                go_roundw
                case rel => first | exact ⟨i + 1, a + 1, b + 1, by omega, by omega, by omega, by go_num, by first | rfl | go_num, by first | rfl | go_num, (by first | trivial | rfl), Lib.hid HA2.out, Lib.hid HB2.out⟩ | ((repeat apply Exists.intro); exact ⟨⟨i + 1, a + 1, b + 1, by omega, by omega, by omega, by go_num, by first | rfl | go_num, by first | rfl | go_num, (by first | trivial | rfl), Lib.hid HA2.out, Lib.hid HB2.out⟩, rfl⟩)
                case measure => simp [intOf]; omega
            | false =>
              have g3 : (s.toList == t.toList) = false := h3
              have e := ho h1 h3
              rw [show slotB x ⟨s, 1 + p, k⟩ = true from (slotB_iff _ _).2 e] at hq
              have h2 : soS t x = false := by rw [e]; exact h3
              have g2 : (x.s.toList == t.toList) = false := h2
              rw [h2] at HB2
              clear h1 ho h3 e h2
              go_wp2
              go_roundw
              case rel => first | exact ⟨i + 1, a + 1, b, by omega, by omega, by omega, by go_num, by first | rfl | go_num, by first | rfl | go_num, (by first | trivial | rfl), Lib.hid HA2.out, Lib.hid HB2.out⟩ | ((repeat apply Exists.intro); exact ⟨⟨i + 1, a + 1, b, by omega, by omega, by omega, by go_num, by first | rfl | go_num, by first | rfl | go_num, (by first | trivial | rfl), Lib.hid HA2.out, Lib.hid HB2.out⟩, rfl⟩)
              case measure => simp [intOf]; omega
          | false =>
            rw [h1] at HA2
            have g1 : (x.s.toList == s.toList) = false := h1
            clear hq ho h1
            cases h2 : soS t x with
            | true =>
              rw [h2] at HB2
              have g2 : (x.s.toList == t.toList) = true := h2
              clear h2
              go_wp2
              go_roundw
              case rel => first | exact ⟨i + 1, a, b + 1, by omega, by omega, by omega, by go_num, by first | rfl | go_num, by first | rfl | go_num, (by first | trivial | rfl), Lib.hid HA2.out, Lib.hid HB2.out⟩ | ((repeat apply Exists.intro); exact ⟨⟨i + 1, a, b + 1, by omega, by omega, by omega, by go_num, by first | rfl | go_num, by first | rfl | go_num, (by first | trivial | rfl), Lib.hid HA2.out, Lib.hid HB2.out⟩, rfl⟩)
              case measure => simp [intOf]; omega
            | false =>
              rw [h2] at HB2
              have g2 : (x.s.toList == t.toList) = false := h2
              clear h2
              go_wp2
              go_roundw
              case rel => first | exact ⟨i + 1, a, b, by omega, by omega, by omega, by go_num, by first | rfl | go_num, by first | rfl | go_num, (by first | trivial | rfl), Lib.hid HA2.out, Lib.hid HB2.out⟩ | ((repeat apply Exists.intro); exact ⟨⟨i + 1, a, b, by omega, by omega, by omega, by go_num, by first | rfl | go_num, by first | rfl | go_num, (by first | trivial | rfl), Lib.hid HA2.out, Lib.hid HB2.out⟩, rfl⟩)
              case measure => simp [intOf]; omega
        · obtain rfl : i = ny := by omega
          have e1 : a = j1 := by rw [← HA.out, ← J1.out, ← ND.out, List.take_length]
          have e2 : b = j2 := by rw [← HB.out, ← J2.out, ← ND.out, List.take_length]
          subst e1
          subst e2
          have e3 : a = 1 := by omega
          subst e3
          have g9 : ((m : Int) == ((i : Int) - (b : Int))) = true := by rw [beq_iff_eq]; omega
          go_wp2_with (first
            | (go_at_call 21; refine (off_at _ _ _ X NX.out _ X5.out (by omega)).mono ?_; rintro e v7 ⟨A7, c7, rfl, hat, hbel⟩; have C6 := Lib.hid (below_step C5.out hbel); have F6 := Lib.hid hat; clear hat hbel)
            | (go_at_call 26; refine (RX.out _ _ _ F6.out).mono ?_; rintro e v8 ⟨rfl, hbel⟩; have C7 := Lib.hid (below_step C6.out hbel); clear hbel))
          go_ret
          exact ⟨rfl, C7.out⟩
    | false =>
      have PB := Lib.hid (fun A c W x y hx hy2 hA => put_at X nx NX.out nx8 t (1 + p + 1) k O2.out false hb2 Y hY ny hny A c W x y hx hy2 hA)
      have LD := LX
      have ND := NX
      clear hb2 hY hny
      go_wp2_with (go_at_call 14; refine (PB.out _ _ _ _ _ (by first | rfl | exact w64 (by omega) (by omega)) (by first | rfl | exact w64 (by omega) (by omega)) X3.out).mono ?_; rintro e v5 ⟨A5, c5, rfl, hat, hbel⟩; have C4 := Lib.hid (below_step C3.out hbel); have X4 := Lib.hid (X3.out.below hbel); have D4 := X4; clear hat hbel)
      have dc := drop_cnt (t := t) LD.out.good.nd
      have k1 := cnt_le (s := t) LD.out.good.nd
      have k2 := cnt_le (s := s) LD.out.good.nd
      have k3 : 0 < X.countP (soS s) := by
        obtain ⟨x, hx, hs⟩ := LD.out.has
        exact List.countP_pos_iff.2 ⟨x, hx, hs⟩
      obtain ⟨G, hG⟩ : ∃ G, dropL t X = G := ⟨_, rfl⟩
      obtain ⟨m, hm⟩ : ∃ m, G.length = m := ⟨_, rfl⟩
      rw [hG, hm, ND.out] at dc
      have PG := Lib.hid (fun A c W hA => drop_at A c nx m X G ND.out t W hA (by omega) hG hm)
      obtain ⟨j1, hj1⟩ : ∃ j, X.countP (soS s) = j := ⟨_, rfl⟩
      obtain ⟨j2, hj2⟩ : ∃ j, X.countP (soS t) = j := ⟨_, rfl⟩
      rw [hj2] at dc k1
      rw [hj1] at k2 k3
      have J1 := Lib.hid hj1
      have J2 := Lib.hid hj2
      clear hG hm hj1 hj2
      go_wp2_with (go_at_call 19; refine (PG.out _ _ _ D4.out).mono ?_; rintro e v6 ⟨A6, c6, rfl, hat, hbel⟩; have C5 := Lib.hid (below_step C4.out hbel); have X5 := Lib.hid (X4.out.below hbel); have D5 := Lib.hid (D4.out.below hbel); clear hat hbel)
      have q1 := D5.out.le
      have q2 := D5.out.max
      rw [ND.out] at q1
      go_loopw [22, 23, 24] (fun mv tv iv wr => ∃ (i a b : Nat), i ≤ nx ∧ a ≤ i ∧ b ≤ i ∧ iv = .int .i64 i ∧ mv = .int .i64 a ∧ tv = .int .i64 b ∧ wr = v6 ∧ Hid ((X.take i).countP (soS s) = a) ∧ Hid ((X.take i).countP (soS t) = b)) (fun _ _ iv _ => nx - (intOf iv).toNat)
      case atStart => exact ⟨0, 0, 0, Nat.zero_le _, Nat.zero_le _, Nat.zero_le _, rfl, rfl, rfl, rfl, Lib.hid (by simp), Lib.hid (by simp)⟩
      case round =>
        obtain ⟨i, a, b, hi, hai, hbi, rfl, rfl, rfl, rfl, HA, HB⟩ := hrel
        by_cases hlt : i < nx
        · have hx : X[i]? = some (X[i]'(by have := ND.out; omega)) := List.getElem?_eq_getElem _
          have ho := LD.out.own _ (List.getElem_mem (by have := ND.out; omega : i < X.length))
          obtain ⟨g, off, rfl, hbl, d0, d1, d2⟩ := at_getL D5.out i _ hx
          generalize X[i]'(by have := ND.out; omega) = x at d0 d1 d2 hx ho
          have HA2 := Lib.hid (cnt_take (so := soS s) hx)
          have HB2 := Lib.hid (cnt_take (so := soS t) hx)
          rw [HA.out] at HA2
          rw [HB.out] at HB2
          clear hx
          have hq : ∀ W, (Op.equalIn 10000 50 (.agg #[.string x.s, .int .i64 x.p, .int .i64 x.t]) (.agg #[.string s, .int .i64 (1 + p), .int .i64 k])).run Try.prog W = .ok (slotB x ⟨s, 1 + p, k⟩) W := fun W => eqA50 W x ⟨s, 1 + p, k⟩
          cases h1 : soS s x with
          | true =>
            rw [h1] at HA2
            have g1 : (x.s.toList == s.toList) = true := h1
            cases h3 : eqS s t with
            | true =>
              have e := eqS_eq h3
              have g3 : (s.toList == t.toList) = true := h3
              have g2 : (x.s.toList == t.toList) = true := by rw [← e]; exact h1
              rw [show soS t x = true from g2] at HB2
              generalize slotB x ⟨s, 1 + p, k⟩ = r at hq
              clear h1 ho h3 e
              cases r with
              | true =>
                go_wp2
                go_roundw
                case rel => first | exact ⟨i + 1, a + 1, b + 1, by omega, by omega, by omega, by go_num, by first | rfl | go_num, by first | rfl | go_num, (by first | trivial | rfl), Lib.hid HA2.out, Lib.hid HB2.out⟩ | ((repeat apply Exists.intro); exact ⟨⟨i + 1, a + 1, b + 1, by omega, by omega, by omega, by go_num, by first | rfl | go_num, by first | rfl | go_num, (by first | trivial | rfl), Lib.hid HA2.out, Lib.hid HB2.out⟩, rfl⟩)
                case measure => simp [intOf]; omega
              | false =>
                go_wp2
                go_roundw
                case rel => first | exact ⟨i + 1, a + 1, b + 1, by omega, by omega, by omega, by go_num, by first | rfl | go_num, by first | rfl | go_num, (by first | trivial | rfl), Lib.hid HA2.out, Lib.hid HB2.out⟩ | ((repeat apply Exists.intro); exact ⟨⟨i + 1, a + 1, b + 1, by omega, by omega, by omega, by go_num, by first | rfl | go_num, by first | rfl | go_num, (by first | trivial | rfl), Lib.hid HA2.out, Lib.hid HB2.out⟩, rfl⟩)
                case measure => simp [intOf]; omega
            | false =>
              have g3 : (s.toList == t.toList) = false := h3
              have e := ho h1 h3
              rw [show slotB x ⟨s, 1 + p, k⟩ = true from (slotB_iff _ _).2 e] at hq
              have h2 : soS t x = false := by rw [e]; exact h3
              have g2 : (x.s.toList == t.toList) = false := h2
              rw [h2] at HB2
              clear h1 ho h3 e h2
              go_wp2
              go_roundw
              case rel => first | exact ⟨i + 1, a + 1, b, by omega, by omega, by omega, by go_num, by first | rfl | go_num, by first | rfl | go_num, (by first | trivial | rfl), Lib.hid HA2.out, Lib.hid HB2.out⟩ | ((repeat apply Exists.intro); exact ⟨⟨i + 1, a + 1, b, by omega, by omega, by omega, by go_num, by first | rfl | go_num, by first | rfl | go_num, (by first | trivial | rfl), Lib.hid HA2.out, Lib.hid HB2.out⟩, rfl⟩)
              case measure => simp [intOf]; omega
          | false =>
            rw [h1] at HA2
            have g1 : (x.s.toList == s.toList) = false := h1
            clear hq ho h1
            cases h2 : soS t x with
            | true =>
              rw [h2] at HB2
              have g2 : (x.s.toList == t.toList) = true := h2
              clear h2
              go_wp2
              go_roundw
              case rel => first | exact ⟨i + 1, a, b + 1, by omega, by omega, by omega, by go_num, by first | rfl | go_num, by first | rfl | go_num, (by first | trivial | rfl), Lib.hid HA2.out, Lib.hid HB2.out⟩ | ((repeat apply Exists.intro); exact ⟨⟨i + 1, a, b + 1, by omega, by omega, by omega, by go_num, by first | rfl | go_num, by first | rfl | go_num, (by first | trivial | rfl), Lib.hid HA2.out, Lib.hid HB2.out⟩, rfl⟩)
              case measure => simp [intOf]; omega
            | false =>
              rw [h2] at HB2
              have g2 : (x.s.toList == t.toList) = false := h2
              clear h2
              go_wp2
              go_roundw
              case rel => first | exact ⟨i + 1, a, b, by omega, by omega, by omega, by go_num, by first | rfl | go_num, by first | rfl | go_num, (by first | trivial | rfl), Lib.hid HA2.out, Lib.hid HB2.out⟩ | ((repeat apply Exists.intro); exact ⟨⟨i + 1, a, b, by omega, by omega, by omega, by go_num, by first | rfl | go_num, by first | rfl | go_num, (by first | trivial | rfl), Lib.hid HA2.out, Lib.hid HB2.out⟩, rfl⟩)
              case measure => simp [intOf]; omega
        · obtain rfl : i = nx := by omega
          have e1 : a = j1 := by rw [← HA.out, ← J1.out, ← ND.out, List.take_length]
          have e2 : b = j2 := by rw [← HB.out, ← J2.out, ← ND.out, List.take_length]
          subst e1
          subst e2
          have e3 : a = 1 := by omega
          subst e3
          have g9 : ((m : Int) == ((i : Int) - (b : Int))) = true := by rw [beq_iff_eq]; omega
          go_wp2_with (first
            | (go_at_call 21; refine (off_at _ _ _ X NX.out _ X5.out (by omega)).mono ?_; rintro e v7 ⟨A7, c7, rfl, hat, hbel⟩; have C6 := Lib.hid (below_step C5.out hbel); have F6 := Lib.hid hat; clear hat hbel)
            | (go_at_call 26; refine (RX.out _ _ _ F6.out).mono ?_; rintro e v8 ⟨rfl, hbel⟩; have C7 := Lib.hid (below_step C6.out hbel); clear hbel))
          go_ret
          exact ⟨rfl, C7.out⟩
end Go.Proofs.Ytjehhpppihmpgaa.Boo
