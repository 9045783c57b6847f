/- BookOrder. -/
import Derived.Test.YtjehhpppihmpgaaBooP
namespace Go.Proofs.Ytjehhpppihmpgaa.Boo
open Go.RowKit Go.Proofs.Ytjehhpppihmpgaa.Mem

/-- What Put makes of a book that has room. -/
def Pu (xs : List Slot) (n : Nat) (s : ByteArray) (p t : Int) (D : List Slot) (m : Nat) : Prop := xs.length = n ∧ n ≤ 8 ∧ s.size ≤ 12 ∧ putX s p t xs = D ∧ D.length = m ∧ putE s p t xs = 0
theorem pu_at {xs D : List Slot} {n m : Nat} {s : ByteArray} {p t : Int} (h : Pu xs n s p t D m) (A : Option Addr) (c : Nat) (W : World) (a b : Int) (ha : a = p) (hb : b = t) (hA : dL.At W A c xs) :
    Calls Try.prog 14 #[.slice A n c, .string s, .int .i64 a, .int .i64 b] W (MadeE W D m 0) := by
  obtain ⟨h1, h2, h3, h4, h5, h6⟩ := h
  subst ha hb h4 h5
  have := put_any A c n xs h1 s a b W hA (by omega) (by omega)
  rw [h6] at this
  exact this
theorem putL_mem {L : List Slot} (hn : (L.map Slot.s).Nodup) (hl : L.length < 8) (s : ByteArray) (y z : Slot) : z ∈ putL (soS s) y 8 L ↔ z = y ∨ (z ∈ L ∧ soS s z = false) := by
  by_cases hf : fI (soS s) L = -1
  · rw [putL_more hf hl, List.mem_append, List.mem_singleton]
    constructor
    · rintro (h | h)
      · exact .inr ⟨h, fI_not hf z h⟩
      · exact .inl h
    · rintro (h | h)
      · exact .inr h
      · exact .inl h.1
  · obtain ⟨k, x, hk, hx, hs⟩ := fI_get hf
    have hd := dropL_filter hn s
    unfold dropL at hd
    rw [if_neg hf, hk, Int.toNat_natCast] at hd
    rw [putL_hit hk]
    have hkl := (List.getElem?_eq_some_iff.1 hx).1
    have h1 : z ∈ L ∧ soS s z = false ↔ z ∈ L.eraseIdx k := by
      rw [hd, List.mem_filter]
      simp
    rw [h1, List.set_eq_take_append_cons_drop, if_pos hkl, List.eraseIdx_eq_take_drop_succ, List.mem_append, List.mem_append, List.mem_cons]
    constructor
    · rintro (h | h | h)
      · exact .inr (.inl h)
      · exact .inl h
      · exact .inr (.inr h)
    · rintro (h | h | h)
      · exact .inr (.inl h)
      · exact .inl h
      · exact .inr (.inr h)
theorem fI_any_iff (so : Slot → Bool) (L : List Slot) : L.any so = false ↔ fI so L = -1 := by
  constructor
  · exact fI_any
  · intro h
    rw [List.any_eq_false]
    intro x hx
    rw [fI_not h x hx]
    decide
theorem putL_length {L : List Slot} (hl : L.length < 8) (s : ByteArray) (y : Slot) : (putL (soS s) y 8 L).length = L.length + if L.any (soS s) then 0 else 1 := by
  by_cases hf : fI (soS s) L = -1
  · rw [putL_more hf hl, (fI_any_iff _ _).2 hf, List.length_append]
    rfl
  · obtain ⟨k, x, hk, hx, hs⟩ := fI_get hf
    have : L.any (soS s) = true := by
      rw [List.any_eq_true]
      exact ⟨x, List.mem_of_getElem? hx, hs⟩
    rw [putL_hit hk, this, List.length_set]
    rfl
theorem putB_room {L : List Slot} (hl : L.length < 8) (so : Slot → Bool) : putB so 8 L = true := by
  unfold putB
  split
  · exact decide_eq_true hl
  · rfl
theorem soS_ne {s t : ByteArray} (h : eqS s t = false) (z : Slot) (hz : soS t z = true) : soS s z = false := by
  have e : z.s = t := eqS_eq hz
  unfold soS
  rw [e, eqS_comm]
  exact h
theorem putL_any {L : List Slot} (hn : (L.map Slot.s).Nodup) (hl : L.length < 8) {s t : ByteArray} (hst : eqS s t = false) (y : Slot) (hy : y.s = s) : (putL (soS s) y 8 L).any (soS t) = L.any (soS t) := by
  rw [Bool.eq_iff_iff, List.any_eq_true, List.any_eq_true]
  constructor
  · rintro ⟨z, hz, hp⟩
    rcases (putL_mem hn hl s y z).1 hz with rfl | ⟨h1, _⟩
    · unfold soS at hp
      rw [hy, hst] at hp
      cases hp
    · exact ⟨z, h1, hp⟩
  · rintro ⟨z, hz, hp⟩
    exact ⟨z, (putL_mem hn hl s y z).2 (.inr ⟨hz, soS_ne hst z hp⟩), hp⟩
theorem pu_of {L : List Slot} {n : Nat} (hL : L.length = n) (hn : n < 8) {s : ByteArray} {p t : Int} (hy : OkS ⟨s, p, t⟩) : Pu L n s p t (putL (soS s) ⟨s, p, t⟩ 8 L) (putL (soS s) ⟨s, p, t⟩ 8 L).length := by
  obtain ⟨h1, h2⟩ := putX_good (L := L) hy
  refine ⟨hL, by omega, hy.2.1, h1, rfl, ?_⟩
  rw [h2, putB_room (by omega)]
  rfl
theorem ord_facts (L : List Slot) (n : Nat) (hL : L.length = n) (hG : Good L) (h6 : n ≤ 6) (s t : ByteArray) (p : Int) (hst : eqS s t = false) (hs : nameB s = true) (ht : nameB t = true) (hsz : s.size ≤ 12) (htz : t.size ≤ 12) (hp : 1 ≤ p ∧ p ≤ 2500) :
    ∃ (X1 X2 Y1 Y2 : List Slot) (n1 n2 m1 : Nat), X1.length = n1 ∧ X2.length = n2 ∧ Y2.length = n2 ∧ n1 ≤ 8 ∧ n2 ≤ 8 ∧ Pu L n s p 50 X1 n1 ∧ Pu X1 n1 t (p + 1) 51 X2 n2 ∧ Pu L n t (p + 1) 51 Y1 m1 ∧ Pu Y1 m1 s p 50 Y2 n2 ∧ (∀ x ∈ X2, x ∈ Y2) ∧ (L.any (soS s) = false → dropL s X1 = L) := by
  have hp1 : OkS ⟨s, p, 50⟩ := ⟨hs, hsz, ⟨hp.1, by show p ≤ 2501; omega⟩, by show (0 : Int) ≤ 50; decide, by show (50 : Int) ≤ 1000; decide⟩
  have hp2 : OkS ⟨t, p + 1, 51⟩ := ⟨ht, htz, ⟨by show 1 ≤ p + 1; omega, by show p + 1 ≤ 2501; omega⟩, by show (0 : Int) ≤ 51; decide, by show (51 : Int) ≤ 1000; decide⟩
  have hts : eqS t s = false := by rw [eqS_comm]; exact hst
  have l0 : L.length < 8 := by omega
  have gX := hG.put s p 50 hp1 (putB_room l0 _)
  have gY := hG.put t (p + 1) 51 hp2 (putB_room l0 _)
  have lX := putL_length l0 s ⟨s, p, 50⟩
  have lY := putL_length l0 t ⟨t, p + 1, 51⟩
  have aX := putL_any hG.nd l0 hst ⟨s, p, 50⟩ rfl
  have aY := putL_any hG.nd l0 hts ⟨t, p + 1, 51⟩ rfl
  have mX := putL_mem hG.nd l0 s ⟨s, p, 50⟩
  have mY := putL_mem hG.nd l0 t ⟨t, p + 1, 51⟩
  have PX := pu_of hL (by omega) hp1
  have PY := pu_of hL (by omega) hp2
  have hdr : L.any (soS s) = false → dropL s (putL (soS s) ⟨s, p, 50⟩ 8 L) = L := fun ha => by
    have hf := fI_any ha
    rw [dropL_filter gX.nd, putL_more hf l0, List.filter_append, kept_none hf]
    rw [List.filter_cons_of_neg (by show ¬ (!soS s ⟨s, p, 50⟩) = true; rw [show soS s ⟨s, p, 50⟩ = true from eqS_self s]; decide)]
    simp
  generalize putL (soS s) ⟨s, p, 50⟩ 8 L = X1 at gX lX aX mX PX hdr
  generalize putL (soS t) ⟨t, p + 1, 51⟩ 8 L = Y1 at gY lY aY mY PY
  have lx1 : X1.length ≤ 7 := by rw [lX]; split <;> omega
  have ly1 : Y1.length ≤ 7 := by rw [lY]; split <;> omega
  have lX2 := putL_length (L := X1) (by omega) t ⟨t, p + 1, 51⟩
  have lY2 := putL_length (L := Y1) (by omega) s ⟨s, p, 50⟩
  have mX2 := putL_mem gX.nd (by omega) t ⟨t, p + 1, 51⟩
  have mY2 := putL_mem gY.nd (by omega) s ⟨s, p, 50⟩
  have PX2 := pu_of (L := X1) rfl (by omega) hp2
  have PY2 := pu_of (L := Y1) rfl (by omega) hp1
  have he : (putL (soS t) ⟨t, p + 1, 51⟩ 8 X1).length = (putL (soS s) ⟨s, p, 50⟩ 8 Y1).length := by
    rw [lX2, lY2, aX, aY, lX, lY]; omega
  refine ⟨X1, _, Y1, _, X1.length, _, Y1.length, rfl, rfl, he.symm, by omega, by rw [lX2]; split <;> omega, PX, PX2, PY, by rw [he]; exact PY2, fun z hz => ?_, hdr⟩
  rw [mY2, mY]
  rcases (mX2 z).1 hz with h | ⟨h1, h2⟩
  · subst h
    exact .inr ⟨.inl rfl, hts⟩
  · rcases (mX z).1 h1 with h | ⟨h3, h4⟩
    · exact .inl h
    · exact .inr ⟨.inr ⟨h3, h2⟩, h4⟩
theorem slotB_any {x : Slot} {L : List Slot} (h : x ∈ L) : L.any (slotB x) = true := by
  rw [List.any_eq_true]
  exact ⟨x, h, (slotB_iff x x).2 rfl⟩
set_option maxHeartbeats 8000000 in
theorem order_any (A : Option Addr) (c n : Nat) (rs : List Raw) (hn : rs.length = n) (one two price : Int) (w0 : I64 one) (w1 : I64 two) (w2 : I64 price) (w : World) (h : dR.At w A c rs) (hr : ∀ r ∈ rs, R64 r) :
    Calls Try.prog 8 #[.slice A n c, .int .i64 one, .int .i64 two, .int .i64 price] w (Ret (.bool true) w) := by
  have HK := Lib.hid (fun W hW => book_any A c n rs hn W hW hr)
  have H := Lib.hid h
  obtain ⟨s, hs, hsz, HS0⟩ := sell one w0
  obtain ⟨t, ht, htz, HT0⟩ := sell two w1
  have HS := Lib.hid HS0
  have HT := Lib.hid HT0
  have b25 := pick_bd price 2500 (by decide)
  have P25 : Pick price 2500 (pickI price 2500) := ⟨w2, by decide, rfl⟩
  generalize pickI price 2500 = p at b25 P25
  have S1 := Lib.hid hs
  have S2 := Lib.hid ht
  clear h hr w0 w1 w2 HS0 HT0 hs ht
  cases hst : eqS s t with
  | true =>
    have g1 : (s.toList == t.toList) = true := hst
    clear hst
    go_enter Try.func8, Try.ntmps8
    go_wp2_with (first
      | (go_at_call 10; refine (awake_any _).mono ?_; rintro e v1 ⟨rfl, hbel⟩; have B1 := Lib.hid hbel; have H1 := Lib.hid (H.out.below hbel); clear hbel)
      | (go_at_call 11; refine (HK.out _ H1.out).mono ?_; rintro e v0 ⟨A0, c0, n0, L, rfl, hat, hlen, hg, hbel⟩; have C0 := Lib.hid (below_step B1.out hbel); have L0 := Lib.hid hat; have NL := Lib.hid hlen; have GL := Lib.hid hg; have l8 := hlen ▸ hg.len; clear hat hlen hg hbel))
    go_wp2_with (first
    | (go_at_call 12; have Z := C1; refine (HT.out _).mono ?_; rintro e v3 ⟨rfl, hbel⟩; have B_0 := Lib.hid (below_step C1.out hbel); have L_0 := Lib.hid (L1.out.below hbel); clear hbel HT)
    | (go_at_call 12; refine (HS.out _).mono ?_; rintro e v2 ⟨rfl, hbel⟩; have C1 := Lib.hid (below_step C0.out hbel); have L1 := Lib.hid (L0.out.below hbel); clear hbel))
    go_ret
    exact ⟨rfl, B_0.out⟩
  | false =>
  have g1 : (s.toList == t.toList) = false := hst
  have ST := Lib.hid hst
  clear hst
  go_enter Try.func8, Try.ntmps8
  go_wp2_with (first
    | (go_at_call 10; refine (awake_any _).mono ?_; rintro e v1 ⟨rfl, hbel⟩; have B1 := Lib.hid hbel; have H1 := Lib.hid (H.out.below hbel); clear hbel)
    | (go_at_call 11; refine (HK.out _ H1.out).mono ?_; rintro e v0 ⟨A0, c0, n0, L, rfl, hat, hlen, hg, hbel⟩; have C0 := Lib.hid (below_step B1.out hbel); have L0 := Lib.hid hat; have NL := Lib.hid hlen; have GL := Lib.hid hg; have l8 := hlen ▸ hg.len; clear hat hlen hg hbel))
  by_cases h6 : 6 < n0
  · have g6 : (6 : Int) < (n0 : Int) := by omega
    go_wp2_with (first
    | (go_at_call 12; have Z := C1; refine (HT.out _).mono ?_; rintro e v3 ⟨rfl, hbel⟩; have B_0 := Lib.hid (below_step C1.out hbel); have L_0 := Lib.hid (L1.out.below hbel); clear hbel HT)
    | (go_at_call 12; refine (HS.out _).mono ?_; rintro e v2 ⟨rfl, hbel⟩; have C1 := Lib.hid (below_step C0.out hbel); have L1 := Lib.hid (L0.out.below hbel); clear hbel))
    go_ret
    exact ⟨rfl, B_0.out⟩
  have g6 : ¬ ((6 : Int) < (n0 : Int)) := by omega
  go_wp2_with (first
    | (go_at_call 12; have Z := C1; refine (HT.out _).mono ?_; rintro e v3 ⟨rfl, hbel⟩; have B_0 := Lib.hid (below_step C1.out hbel); have L_0 := Lib.hid (L1.out.below hbel); clear hbel HT)
    | (go_at_call 12; refine (HS.out _).mono ?_; rintro e v2 ⟨rfl, hbel⟩; have C1 := Lib.hid (below_step C0.out hbel); have L1 := Lib.hid (L0.out.below hbel); clear hbel))
  obtain ⟨X1, X2, Y1, Y2, n1, n2, m1, f1, f2, f3, q1, q2, p1, p2, p3, p4, hxy, hdr⟩ := ord_facts L n0 NL.out GL.out (by omega) s t (1 + p) ST.out S1.out S2.out hsz htz (by omega)
  have PA := Lib.hid p1
  have PB := Lib.hid p2
  have PC := Lib.hid p3
  have PD := Lib.hid p4
  have F1 := Lib.hid f1
  have F2 := Lib.hid f2
  have F3 := Lib.hid f3
  have XY := Lib.hid hxy
  have DR := Lib.hid hdr
  clear p1 p2 p3 p4 f1 f2 f3 hxy hdr
  go_wp2_with (first
    | (go_at_call 13; refine (pick_of _ (by assumption)).mono ?_; rintro e w' ⟨rfl, rfl⟩)
    | (go_at_call 14; have Z := B_3; refine (pu_at PD.out _ _ _ _ _ (by first | rfl | exact w64 (by omega) (by omega)) (by first | rfl | exact w64 (by omega) (by omega)) Y_3.out).mono ?_; rintro e v4 ⟨A4, c4, rfl, hat, hbel⟩; have B_4 := Lib.hid (below_step B_3.out hbel); have L_4 := Lib.hid (L_3.out.below hbel); have X_4 := Lib.hid (X_3.out.below hbel); have D_4 := Lib.hid (D_3.out.below hbel); have Y_4 := Lib.hid (Y_3.out.below hbel); have E_4 := Lib.hid hat; clear hat hbel)
    | (go_at_call 14; have Z := B_2; refine (pu_at PC.out _ _ _ _ _ (by first | rfl | exact w64 (by omega) (by omega)) (by first | rfl | exact w64 (by omega) (by omega)) L_2.out).mono ?_; rintro e v3 ⟨A3, c3, rfl, hat, hbel⟩; have B_3 := Lib.hid (below_step B_2.out hbel); have L_3 := Lib.hid (L_2.out.below hbel); have X_3 := Lib.hid (X_2.out.below hbel); have D_3 := Lib.hid (D_2.out.below hbel); have Y_3 := Lib.hid hat; clear hat hbel)
    | (go_at_call 14; have Z := B_1; refine (pu_at PB.out _ _ _ _ _ (by first | rfl | exact w64 (by omega) (by omega)) (by first | rfl | exact w64 (by omega) (by omega)) X_1.out).mono ?_; rintro e v2 ⟨A2, c2, rfl, hat, hbel⟩; have B_2 := Lib.hid (below_step B_1.out hbel); have L_2 := Lib.hid (L_1.out.below hbel); have X_2 := Lib.hid (X_1.out.below hbel); have D_2 := Lib.hid hat; clear hat hbel)
    | (go_at_call 14; have Z := B_0; refine (pu_at PA.out _ _ _ _ _ (by first | rfl | exact w64 (by omega) (by omega)) (by first | rfl | exact w64 (by omega) (by omega)) L_0.out).mono ?_; rintro e v1 ⟨A1, c1, rfl, hat, hbel⟩; have B_1 := Lib.hid (below_step B_0.out hbel); have L_1 := Lib.hid (L_0.out.below hbel); have X_1 := Lib.hid hat; clear hat hbel))
  have l1 := D_4.out.le
  have l2 := D_4.out.max
  rw [F2.out] at l1
  have l3 := E_4.out.le
  have l4 := E_4.out.max
  rw [F3.out] at l3
  go_loopw [20] (fun iv wr => ∃ (i q : Nat), i ≤ n2 ∧ iv = .int .i64 i ∧ wr = v4.drewN q) (fun iv _ => n2 - (intOf iv).toNat)
  case atStart => exact ⟨0, 0, Nat.zero_le _, rfl, rfl⟩
  case round =>
    obtain ⟨i, q, hi, rfl, rfl⟩ := hrel
    by_cases hlt : i < n2
    · have hx : X2[i]? = some (X2[i]'(by have := F2.out; omega)) := List.getElem?_eq_getElem _
      obtain ⟨g, off, rfl, hbl, c0', c1', c2'⟩ := at_getL D_4.out i _ hx
      have hin : Hid (Y2.any (slotB (X2[i]'(by have := F2.out; omega))) = true) := Lib.hid (slotB_any (XY.out _ (List.getElem_mem _)))
      generalize X2[i]'(by have := F2.out; omega) = x at c0' c1' c2' hx hin
      clear hx
      go_wp2
      go_loopw [21, 22] (fun hv kv wr => ∃ (k q : Nat) (b : Bool), k ≤ n2 ∧ kv = .int .i64 k ∧ hv = .bool b ∧ wr = v4.drewN q ∧ Hid ((Y2.take k).any (slotB x) = b)) (fun _ kv _ => n2 - (intOf kv).toNat)
      case atStart => exact ⟨0, q, false, Nat.zero_le _, rfl, rfl, rfl, Lib.hid (by simp)⟩
      case round =>
        obtain ⟨k, q', b, hk, rfl, rfl, rfl, HB⟩ := hrel
        by_cases hkl : k < n2
        · have hy : Y2[k]? = some (Y2[k]'(by have := F3.out; omega)) := List.getElem?_eq_getElem _
          obtain ⟨g', off', rfl, hbl', d0, d1, d2⟩ := at_getL E_4.out k _ hy
          generalize Y2[k]'(by have := F3.out; omega) = y at d0 d1 d2 hy
          have HB2 : Hid ((Y2.take (k + 1)).any (slotB x) = (b || slotB x y)) := Lib.hid (by rw [any_take hy, HB.out])
          clear hy
          have hq : ∀ W, (Op.equalIn 10000 50 (.agg #[.string x.s, .int .i64 x.p, .int .i64 x.t]) (.agg #[.string y.s, .int .i64 y.p, .int .i64 y.t])).run Try.prog W = .ok (slotB x y) W := fun W => eqA50 W x y
          generalize slotB x y = r at hq HB2
          cases b with
          | true =>
            rw [Bool.true_or] at HB2
            go_wp2_with fail
            go_quiet (fail)
            go_wp2
            go_roundw
            case rel => exact ⟨k + 1, q' + nq, true, by omega, by go_num, rfl, by go_simp, HB2⟩
            case measure => simp [intOf]; omega
          | false =>
            rw [Bool.false_or] at HB2
            go_wp2_with fail
            go_quiet (fail)
            go_wp2
            go_roundw
            case rel => exact ⟨k + 1, q' + nq, r, by omega, by go_num, rfl, by go_simp, HB2⟩
            case measure => simp [intOf]; omega
        · obtain rfl : k = n2 := by omega
          have hb : b = true := by rw [← HB.out, ← F3.out, List.take_length]; exact hin.out
          subst hb
          go_wp2
          go_roundw
          case rel => exact ⟨i + 1, q', by omega, by go_num, rfl⟩
          case measure => simp [intOf]; omega
    · obtain rfl : i = n2 := by omega
      have L5 := Lib.hid (L_4.out.drewN q)
      have B5 := Lib.hid (below_drewN B_4.out q)
      generalize v4.drewN q = v5 at L5 B5 ⊢
      go_wp2
      go_loopw [23, 24] (fun tv kv wr => ∃ (k : Nat) (b : Bool), k ≤ n0 ∧ kv = .int .i64 k ∧ tv = .bool b ∧ wr = v5 ∧ Hid ((L.take k).any (soS s) = b)) (fun _ kv _ => n0 - (intOf kv).toNat)
      case atStart => exact ⟨0, false, Nat.zero_le _, rfl, rfl, rfl, Lib.hid (by simp)⟩
      case round =>
        obtain ⟨k, b, hk, rfl, rfl, rfl, HB⟩ := hrel
        have l5 := L5.out.le
        have l6 := L5.out.max
        rw [NL.out] at l5
        by_cases hkl : k < n0
        · have hy : L[k]? = some (L[k]'(by have := NL.out; omega)) := List.getElem?_eq_getElem _
          obtain ⟨g', off', rfl, hbl', d0, d1, d2⟩ := at_getL L5.out k _ hy
          generalize L[k]'(by have := NL.out; omega) = y at d0 d1 d2 hy
          have HB2 : Hid ((L.take (k + 1)).any (soS s) = (b || soS s y)) := Lib.hid (by rw [any_take hy, HB.out])
          clear hy
          have g2 : (y.s.toList == s.toList) = soS s y := rfl
          generalize soS s y = r at g2 HB2
          cases b with
          | true =>
            rw [Bool.true_or] at HB2
            go_wp2
            go_roundw
            case rel => exact ⟨k + 1, true, by omega, by go_num, rfl, (by first | trivial | rfl), HB2⟩
            case measure => simp [intOf]; omega
          | false =>
            rw [Bool.false_or] at HB2
            go_wp2
            go_roundw
            case rel => exact ⟨k + 1, r, by omega, by go_num, rfl, (by first | trivial | rfl), HB2⟩
            case measure => simp [intOf]; omega
        · obtain rfl : k = n0 := by omega
          have HE : Hid (L.any (soS s) = b) := Lib.hid (by rw [← HB.out, ← NL.out, List.take_length])
          cases b with
          | true =>
            go_wp2_with (go_at_call 14; refine (pu_at PA.out _ _ _ _ _ (by first | rfl | exact w64 (by omega) (by omega)) (by first | rfl | exact w64 (by omega) (by omega)) L5.out).mono ?_; rintro e v6 ⟨A6, c6, rfl, hat, hbel⟩; have B6 := Lib.hid (below_step B5.out hbel); clear hat hbel)
            go_ret
            exact ⟨rfl, B6.out⟩
          | false =>
            have DE := Lib.hid (DR.out HE.out)
            go_wp2_with (first
              | (go_at_call 14; refine (pu_at PA.out _ _ _ _ _ (by first | rfl | exact w64 (by omega) (by omega)) (by first | rfl | exact w64 (by omega) (by omega)) L5.out).mono ?_; rintro e v6 ⟨A6, c6, rfl, hat, hbel⟩; have B6 := Lib.hid (below_step B5.out hbel); have L6 := Lib.hid (L5.out.below hbel); have X6 := Lib.hid hat; clear hat hbel)
              | (go_at_call 19; refine (drop_at _ _ _ _ X1 L F1.out s _ X6.out (by omega) DE.out NL.out).mono ?_; rintro e v7 ⟨A7, c7, rfl, hat, hbel⟩; have B7 := Lib.hid (below_step B6.out hbel); have L7 := Lib.hid (L6.out.below hbel); have G7 := Lib.hid hat; clear hat hbel)
              | (go_at_call 16; refine (same_yes2 _ _ _ _ _ _ L L NL.out NL.out rfl _ G7.out L7.out).mono ?_; rintro e v8 ⟨rfl, hbel⟩; have B8 := Lib.hid (below_step B7.out hbel); clear hbel))
            go_ret
            exact ⟨rfl, B8.out⟩
end Go.Proofs.Ytjehhpppihmpgaa.Boo
