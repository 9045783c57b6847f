/- The reference's Right; words for BookLast. -/
import Derived.Test.YtjehhpppihmpgaaBooQ
namespace Go.Proofs.Ytjehhpppihmpgaa.Boo
open Go.RowKit Go.Proofs.Ytjehhpppihmpgaa.Mem

theorem at_getF {w : World} {A : Option Addr} {c : Nat} {xs : List Offer} (h : dF.At w A c xs) (k : Nat) (x : Offer) (hx : xs[k]? = some x) :
    ∃ b off, A = some ⟨b, off, none⟩ ∧ b < w.heap.size ∧ w.cell? ⟨b, off + k * 2, none⟩ = some (.string x.s) ∧ w.cell? ⟨b, off + k * 2 + 1, none⟩ = some (.int .i64 x.p) := by
  obtain ⟨b, off, hA, hlt, hc⟩ := h.get k x hx
  exact ⟨b, off, hA, hlt, hc 0 (by decide), hc 1 (by decide)⟩
def OkF (x : Offer) : Prop := nameB x.s = true ∧ x.s.size ≤ 12 ∧ 1 ≤ x.p ∧ x.p ≤ 2501
theorem nd_ne {xs : List Offer} (h : (xs.map Offer.s).Nodup) {i k : Nat} {x y : Offer} (hx : xs[i]? = some x) (hy : xs[k]? = some y) (hk : k < i) : eqS x.s y.s = false := by
  cases hb : eqS x.s y.s with
  | false => rfl
  | true =>
    obtain ⟨hi, hxe⟩ := List.getElem?_eq_some_iff.1 hx
    obtain ⟨hk2, hye⟩ := List.getElem?_eq_some_iff.1 hy
    have h3 := List.pairwise_iff_getElem.1 h k i (by rw [List.length_map]; exact hk2) (by rw [List.length_map]; exact hi) hk
    rw [List.getElem_map, List.getElem_map, hxe, hye] at h3
    exact absurd (eqS_eq hb).symm h3
theorem right_yes (A : Option Addr) (c n : Nat) (xs : List Offer) (hn : xs.length = n) (h8 : n ≤ 8) (hok : ∀ x ∈ xs, OkF x) (hnd : (xs.map Offer.s).Nodup) (w : World) (h : dF.At w A c xs) :
    Calls Try.prog 26 #[.slice A n c] w (Ret (.bool true) w) := by
  have H := Lib.hid h
  have hle := h.le
  have hmax := h.max
  rw [hn] at hle
  have HN := Lib.hid hn
  have HO := Lib.hid hok
  have ND := Lib.hid hnd
  clear h hn hok hnd
  go_enter Try.func26, Try.ntmps26
  go_wp2
  go_loopw [3] (fun iv wr => ∃ i : Nat, i ≤ n ∧ iv = .int .i64 i ∧ Hid (Below w.heap.size w wr)) (fun iv _ => n - (intOf iv).toNat)
  case atStart => exact ⟨0, Nat.zero_le _, rfl, Lib.hid (Below.refl _ _)⟩
  case round =>
    obtain ⟨i, hi, rfl, HB⟩ := hrel
    by_cases hlt : i < n
    · have hx : xs[i]? = some (xs[i]'(by have := HN.out; omega)) := List.getElem?_eq_getElem _
      have ho := HO.out _ (List.getElem_mem (by have := HN.out; omega : i < xs.length))
      have HA := Lib.hid (H.out.below HB.out)
      obtain ⟨b, off, rfl, hbl, c0, c1⟩ := at_getF HA.out i _ hx
      generalize xs[i]'(by have := HN.out; omega) = x at c0 c1 hx ho
      have HX := Lib.hid hx
      clear hx
      obtain ⟨o1, o2, o3, o4⟩ := ho
      have HR := Lib.hid (fun W => rname_any x.s W (by omega))
      rw [o1] at HR
      go_wp2_with (go_at_call 32; refine (HR.out _).mono ?_; rintro e w2 ⟨rfl, hbel⟩; have HB2 := Lib.hid (below_step HB.out hbel); have HA2 := Lib.hid (HA.out.below hbel); have e0 := below_cell hbel c0; have e1 := below_cell hbel c1; clear hbel)
      go_loopw [4] (fun kv wr' => ∃ k q : Nat, k ≤ i ∧ kv = .int .i64 k ∧ wr' = w2.drewN q) (fun kv _ => i - (intOf kv).toNat)
      case atStart => exact ⟨0, 0, Nat.zero_le _, rfl, rfl⟩
      case round =>
        obtain ⟨k, q, hk, rfl, rfl⟩ := hrel
        by_cases hkl : k < i
        · have hy : xs[k]? = some (xs[k]'(by have := HN.out; omega)) := List.getElem?_eq_getElem _
          obtain ⟨b', off', hA', hbl', d0, d1⟩ := at_getF HA2.out k _ hy
          injection hA' with hA'
          injection hA' with hA1 hA2
          subst hA1
          subst hA2
          have g1 := nd_ne ND.out HX.out hy hkl
          generalize xs[k]'(by have := HN.out; omega) = y at d0 d1 hy g1
          have g2 : (x.s.toList == y.s.toList) = false := g1
          clear hy g1
          go_wp2_with fail
          go_quiet (fail)
          go_wp2
          go_roundw
          case rel => exact ⟨k + 1, q + nq, by omega, by go_num, by go_simp⟩
          case measure => simp [intOf]; omega
        · obtain rfl : k = i := by omega
          go_wp2
          go_roundw
          case rel => exact ⟨k + 1, by omega, by go_num, Lib.hid (below_drewN HB2.out q)⟩
          case measure => simp [intOf]; omega
    · obtain rfl : i = n := by omega
      go_wp2
      go_ret
      exact ⟨rfl, HB.out⟩
theorem cnt_le {s : ByteArray} {L : List Slot} (h : (L.map Slot.s).Nodup) : L.countP (soS s) ≤ 1 := by
  induction L with
  | nil => simp
  | cons x L ih =>
    rw [List.map_cons, List.nodup_cons] at h
    rw [List.countP_cons]
    cases hb : soS s x with
    | false => simpa using ih h.2
    | true =>
      have : L.countP (soS s) = 0 := by
        rw [List.countP_eq_zero]
        intro y hy hp
        have e1 : x.s = s := eqS_eq hb
        have e2 : y.s = s := eqS_eq hp
        exact h.1 (by rw [e1, ← e2]; exact List.mem_map_of_mem hy)
      rw [this]
      simp
theorem cnt_take {so : Slot → Bool} {L : List Slot} {i : Nat} {x : Slot} (hx : L[i]? = some x) : (L.take (i + 1)).countP so = (L.take i).countP so + if so x then 1 else 0 := by
  rw [List.take_add_one, hx, List.countP_append]
  simp [List.countP_cons]
theorem drop_cnt {t : ByteArray} {D : List Slot} (h : (D.map Slot.s).Nodup) : (dropL t D).length + D.countP (soS t) = D.length := by
  rw [dropL_filter h, ← List.countP_eq_length_filter]
  have := List.length_eq_countP_add_countP (soS t) (l := D)
  have e : (fun a : Slot => decide ¬ soS t a = true) = fun a => !soS t a := by funext a; cases soS t a <;> rfl
  rw [e] at this
  omega
structure LastD (D : List Slot) (s t : ByteArray) (p k : Int) : Prop where
  good : Good D
  own : ∀ x ∈ D, soS s x = true → eqS s t = false → x = ⟨s, p, k⟩
  has : ∃ x ∈ D, soS s x = true
theorem put_has {L : List Slot} (hG : Good L) (s : ByteArray) (p k : Int) (hb : putB (soS s) 8 L = true) : (∀ z, z ∈ putL (soS s) ⟨s, p, k⟩ 8 L → z = ⟨s, p, k⟩ ∨ (z ∈ L ∧ soS s z = false)) ∧ (⟨s, p, k⟩ : Slot) ∈ putL (soS s) ⟨s, p, k⟩ 8 L ∧ (∀ z ∈ L, soS s z = false → z ∈ putL (soS s) ⟨s, p, k⟩ 8 L) := by
  by_cases hf : fI (soS s) L = -1
  · have hl : L.length < 8 := by
      unfold putB at hb
      rw [if_pos hf] at hb
      simpa using hb
    have hm := putL_mem hG.nd hl s ⟨s, p, k⟩
    exact ⟨fun z hz => (hm z).1 hz, (hm _).2 (.inl rfl), fun z h1 h2 => (hm z).2 (.inr ⟨h1, h2⟩)⟩
  · obtain ⟨j, x, hk, hx, hs⟩ := fI_get hf
    have hd := dropL_filter hG.nd s
    unfold dropL at hd
    rw [if_neg hf, hk, Int.toNat_natCast] at hd
    have hkl := (List.getElem?_eq_some_iff.1 hx).1
    have h1 : ∀ z, z ∈ L ∧ soS s z = false ↔ z ∈ L.eraseIdx j := fun z => by
      rw [hd, List.mem_filter]
      simp
    have hm : ∀ z, z ∈ putL (soS s) ⟨s, p, k⟩ 8 L ↔ z = ⟨s, p, k⟩ ∨ (z ∈ L ∧ soS s z = false) := fun z => by
      rw [putL_hit hk, h1, List.set_eq_take_append_cons_drop, if_pos hkl, List.eraseIdx_eq_take_drop_succ, List.mem_append, List.mem_append, List.mem_cons]
      constructor
      · rintro (h | h | h)
        · exact .inr (.inl h)
        · exact .inl h
        · exact .inr (.inr h)
      · rintro (h | h | h)
        · exact .inr (.inl h)
        · exact .inl h
        · exact .inr (.inr h)
    exact ⟨fun z hz => (hm z).1 hz, (hm _).2 (.inl rfl), fun z h1 h2 => (hm z).2 (.inr ⟨h1, h2⟩)⟩
theorem last_one {L : List Slot} (hG : Good L) (s t : ByteArray) (p k : Int) (hy : OkS ⟨s, p, k⟩) (hb : putB (soS s) 8 L = true) : LastD (putL (soS s) ⟨s, p, k⟩ 8 L) s t p k := by
  obtain ⟨h1, h2, _⟩ := put_has hG s p k hb
  refine ⟨hG.put s p k hy hb, fun x hx hs _ => ?_, ⟨_, h2, eqS_self s⟩⟩
  rcases h1 x hx with h | h
  · exact h
  · rw [h.2] at hs; cases hs
theorem last_two {X : List Slot} (s t : ByteArray) (p q k : Int) (hX : LastD X s t p k) (hy : OkS ⟨t, q, k⟩) (hb : putB (soS t) 8 X = true) : LastD (putL (soS t) ⟨t, q, k⟩ 8 X) s t p k := by
  obtain ⟨h1, h2, h3⟩ := put_has hX.good t q k hb
  refine ⟨hX.good.put t q k hy hb, fun x hx hs hst => ?_, ?_⟩
  · rcases h1 x hx with h | h
    · subst h
      have e : eqS t s = true := hs
      rw [eqS_comm, hst] at e
      cases e
    · exact hX.own x h.1 hs hst
  · obtain ⟨x, hx, hs⟩ := hX.has
    cases hst : eqS s t with
    | true =>
      have e := eqS_eq hst
      subst e
      exact ⟨_, h2, eqS_self s⟩
    | false => exact ⟨x, h3 x hx (by rw [eqS_comm] at hst; exact soS_ne hst x hs), hs⟩
theorem full_len {L : List Slot} (hG : Good L) {so : Slot → Bool} (hb : putB so 8 L = false) : L.length = 8 := by
  have := hG.len
  unfold putB at hb
  split at hb
  · simp at hb; omega
  · cases hb
/-- Put at a list that is good. -/
theorem put_at (L : List Slot) (n : Nat) (hn : L.length = n) (h8 : n ≤ 8) (s : ByteArray) (p t : Int) (hy : OkS ⟨s, p, t⟩) (b : Bool) (hb : putB (soS s) 8 L = b) (D : List Slot) (hD : putL (soS s) ⟨s, p, t⟩ 8 L = D) (m : Nat) (hm : D.length = m) (A : Option Addr) (c : Nat) (W : World) (x y : Int) (hx : x = p) (hy2 : y = t) (hA : dL.At W A c L) :
    Calls Try.prog 14 #[.slice A n c, .string s, .int .i64 x, .int .i64 y] W (MadeE W D m (if b then 0 else 50)) := by
  subst hx hy2 hD hm hb
  have h := put_any A c n L hn s x y W hA (by omega) (by have : s.size ≤ 12 := hy.2.1; omega)
  rw [(putX_good hy).1, (putX_good hy).2] at h
  exact h
theorem off_good {X : List Slot} (hG : Good X) : (∀ x ∈ offL X, OkF x) ∧ ((offL X).map Offer.s).Nodup := by
  refine ⟨fun x hx => ?_, ?_⟩
  · obtain ⟨y, hy, rfl⟩ := List.mem_map.1 hx
    obtain ⟨h1, h2, h3, _⟩ := hG.ok y hy
    exact ⟨h1, h2, h3.1, h3.2⟩
  · unfold offL
    rw [List.map_map]
    exact hG.nd
end Go.Proofs.Ytjehhpppihmpgaa.Boo
