/- Book. -/
import Derived.Test.YtjehhpppihmpgaaBooM
namespace Go.Proofs.Ytjehhpppihmpgaa.Boo
open Go.RowKit Go.Proofs.Ytjehhpppihmpgaa.Mem

def Pick (a n r : Int) : Prop := I64 a ∧ 0 < n ∧ pickI a n = r
theorem pick_of {a n r : Int} (W : World) (h : Pick a n r) : Calls Try.prog 13 #[.int .i64 a, .int .i64 n] W fun e w' => e = .returned (.int .i64 r) ∧ W = w' := by
  obtain ⟨h1, h2, rfl⟩ := h
  exact pick13_any a n W h1 h2
structure Raw where
  a : Int
  b : Int
  c : Int
def dR : En Raw := ⟨fun m => [.int .i64 m.a, .int .i64 m.b, .int .i64 m.c], 3, by omega, fun _ => rfl, fun x u hu => by simp at hu; rcases hu with rfl | rfl | rfl <;> rfl⟩
def R64 (r : Raw) : Prop := I64 r.a ∧ I64 r.b ∧ I64 r.c
theorem at_getR {w : World} {A : Option Addr} {c : Nat} {xs : List Raw} (h : dR.At w A c xs) (k : Nat) (x : Raw) (hx : xs[k]? = some x) :
    ∃ b off, A = some ⟨b, off, none⟩ ∧ b < w.heap.size ∧ w.cell? ⟨b, off + k * 3, none⟩ = some (.int .i64 x.a) ∧ w.cell? ⟨b, off + k * 3 + 1, none⟩ = some (.int .i64 x.b) ∧ w.cell? ⟨b, off + k * 3 + 2, none⟩ = some (.int .i64 x.c) := by
  obtain ⟨b, off, hA, hlt, hc⟩ := h.get k x hx
  exact ⟨b, off, hA, hlt, hc 0 (by decide), hc 1 (by decide), hc 2 (by decide)⟩
def OkS (x : Slot) : Prop := nameB x.s = true ∧ x.s.size ≤ 12 ∧ (1 ≤ x.p ∧ x.p ≤ 2501) ∧ (0 ≤ x.t ∧ x.t ≤ 1000)
structure Good (L : List Slot) : Prop where
  len : L.length ≤ 8
  ok : ∀ x ∈ L, OkS x
  nd : (L.map Slot.s).Nodup
theorem Good.sub {L L' : List Slot} (h : Good L) (hs : L'.Sublist L) : Good L' :=
  ⟨Nat.le_trans hs.length_le h.len, fun x hx => h.ok x (hs.subset hx), h.nd.sublist (hs.map _)⟩
theorem Good.nil : Good [] := ⟨by decide, fun x hx => by simp at hx, by simp⟩
theorem Good.drop {L : List Slot} (h : Good L) (s : ByteArray) : Good (dropL s L) := by
  unfold dropL
  split
  · exact h
  · exact h.sub (List.eraseIdx_sublist _ _)
theorem Good.exp {L : List Slot} (h : Good L) (most now : Int) : Good (expL most now L) := h.sub List.filter_sublist
theorem putL_hit {s : ByteArray} {y : Slot} {L : List Slot} {k : Nat} (h : fI (soS s) L = k) : putL (soS s) y 8 L = L.set k y := by
  unfold putL; rw [if_neg (by omega), h]; rfl
theorem putL_more {s : ByteArray} {y : Slot} {L : List Slot} (h : fI (soS s) L = -1) (hl : L.length < 8) : putL (soS s) y 8 L = L ++ [y] := by
  unfold putL; rw [if_pos h, if_neg (by omega)]
theorem set_same {α : Type} {l : List α} {k : Nat} {a : α} (h : l[k]? = some a) : l.set k a = l := by
  apply List.ext_getElem?
  intro i
  rw [List.getElem?_set]
  split
  · rename_i e
    subst e
    rw [h]
    split
    · rfl
    · rename_i hk
      rw [List.getElem?_eq_none (by omega)] at h
      exact h
  · rfl
theorem Good.put {L : List Slot} (h : Good L) (s : ByteArray) (p t : Int) (hy : OkS ⟨s, p, t⟩) (hb : putB (soS s) 8 L = true) : Good (putL (soS s) ⟨s, p, t⟩ 8 L) := by
  by_cases hf : fI (soS s) L = -1
  · have hl : L.length < 8 := by
      unfold putB at hb
      rw [if_pos hf] at hb
      simpa using hb
    rw [putL_more hf hl]
    refine ⟨by simp; omega, fun x hx => ?_, ?_⟩
    · rcases List.mem_append.1 hx with hx | hx
      · exact h.ok x hx
      · rw [List.mem_singleton.1 hx]; exact hy
    · rw [List.map_append, List.nodup_append]
      refine ⟨h.nd, by simp, fun a ha b hb => ?_⟩
      obtain ⟨x, hx, rfl⟩ := List.mem_map.1 ha
      have e : b = s := by simpa using hb
      rw [e]
      exact eqS_ne (fI_not hf x hx)
  · obtain ⟨k, x, hk, hx, hs⟩ := fI_get hf
    rw [putL_hit hk]
    have e : x.s = s := eqS_eq hs
    refine ⟨by rw [List.length_set]; exact h.len, fun z hz => ?_, ?_⟩
    · rcases List.mem_or_eq_of_mem_set hz with hz | rfl
      · exact h.ok z hz
      · exact hy
    · rw [List.map_set, show (⟨s, p, t⟩ : Slot).s = s from rfl, set_same (by rw [List.getElem?_map, hx]; simp [e])]
      exact h.nd
theorem putX_good {s : ByteArray} {p t : Int} {L : List Slot} (hy : OkS ⟨s, p, t⟩) : putX s p t L = putL (soS s) ⟨s, p, t⟩ 8 L ∧ putE s p t L = if putB (soS s) 8 L then 0 else 50 := by
  obtain ⟨h1, _, h2, h3⟩ := hy
  have h2' : 1 ≤ p ∧ p ≤ 2501 := h2
  have h3' : 0 ≤ t ∧ t ≤ 1000 := h3
  have hk : okP s p t = true := okP_of h1 h2'.1 (by omega) h3'.1 (by omega)
  unfold putX putE
  rw [if_pos hk, if_pos hk]
  exact ⟨rfl, rfl⟩
def IsBook (w : World) (r : Ending) (w' : World) : Prop := ∃ A c n L, r = .returned (.slice A n c) ∧ dL.At w' A c L ∧ L.length = n ∧ Good L ∧ Below w.heap.size w w'
set_option maxRecDepth 100000 in
set_option maxHeartbeats 4000000 in
theorem book_any (A : Option Addr) (c n : Nat) (rs : List Raw) (hn : rs.length = n) (w : World) (h : dR.At w A c rs) (hr : ∀ r ∈ rs, R64 r) :
    Calls Try.prog 11 #[.slice A n c] w (IsBook w) := by
  have H := Lib.hid h
  have hle : n ≤ c := by rw [← hn]; exact h.le
  have hmax := h.max
  have HR := Lib.hid hr
  have HN := Lib.hid hn
  clear h hr hn
  go_enter Try.func11, Try.ntmps11
  go_wp2
  go_loopw [3, 4] (fun v kk wr => ∃ (i m : Nat) (A' : Option Addr) (c' : Nat) (L : List Slot), i ≤ n ∧ i ≤ 30 ∧ kk = .int .i64 i ∧ v = .slice A' m c' ∧ m ≤ 8 ∧ Hid (L.length = m) ∧ Hid (dL.At wr A' c' L) ∧ Hid (Good L) ∧ Hid (Below w.heap.size w wr)) (fun _ kk _ => 30 - (intOf kk).toNat)
  case atStart => exact ⟨0, 0, none, 0, [], Nat.zero_le _, Nat.zero_le _, rfl, rfl, by omega, Lib.hid rfl, Lib.hid En.At.none_, Lib.hid Good.nil, Lib.hid (Below.refl _ _)⟩
  case round =>
    obtain ⟨i, m, A', c', L, hk, h30, rfl, rfl, hm8, HL, HA, HG, HB⟩ := hrel
    by_cases hlt : i < n ∧ i < 30
    · obtain ⟨hl1, hl2⟩ := hlt
      have g1 : decide ((i : Int) < 30) = true := decide_eq_true (by omega)
      have hx : rs[i]? = some (rs[i]'(by have := HN.out; omega)) := List.getElem?_eq_getElem _
      have hg := HR.out _ (List.getElem_mem (by have := HN.out; omega : i < rs.length))
      obtain ⟨b, off, rfl, hbl, c0, c1, c2⟩ := at_getR (H.out.below HB.out) i _ hx
      generalize rs[i]'(by have := HN.out; omega) = x at c0 c1 c2 hg
      clear hx
      obtain ⟨r0, r1, r2⟩ := hg
      obtain ⟨s, hs, hsz, HS⟩ := sell x.b r1
      have HS2 := Lib.hid HS
      have b8 := pick_bd x.a 8 (by decide)
      have P8 : Pick x.a 8 (pickI x.a 8) := ⟨r0, by decide, rfl⟩
      have b12 := pick_bd x.c 12 (by decide)
      have P12 : Pick x.c 12 (pickI x.c 12) := ⟨r2, by decide, rfl⟩
      have b25 := pick_bd x.c 2500 (by decide)
      have P25 : Pick x.c 2500 (pickI x.c 2500) := ⟨r2, by decide, rfl⟩
      clear HS r0 r1 r2
      generalize pickI x.a 8 = y0 at b8 P8
      generalize pickI x.c 12 = y1 at b12 P12
      generalize pickI x.c 2500 = y2 at b25 P25
      have hsz2 : s.size ≤ 9223372036854775807 := by omega
      have DR := Lib.hid (fun (W : World) (hA : dL.At W A' c' L) => rdrop_any A' c' m L HL.out s W hA (by omega) (Lib.hid (fun W hA => at_any A' c' m L HL.out s W hA)))
      have EX := Lib.hid (fun (W : World) (hA : dL.At W A' c' L) => rexp_any A' c' m L HL.out i y1 W hA (by omega))
      have hOk : OkS ⟨s, 1 + y2, i⟩ := ⟨hs, hsz, ⟨by show (1:Int) ≤ 1 + y2; omega, by show 1 + y2 ≤ 2501; omega⟩, by show (0:Int) ≤ i; omega, by show (i:Int) ≤ 1000; omega⟩
      have PU := Lib.hid (fun (W : World) (hA : dL.At W A' c' L) => rput_any A' c' m L HL.out s (1 + y2) i W hA (by omega) hsz2)
      rw [(putX_good hOk).1, (putX_good hOk).2] at PU
      have G1 := Lib.hid (HG.out.drop s)
      have G2 := Lib.hid (HG.out.exp y1 i)
      have G3 := Lib.hid (fun hb => HG.out.put s (1 + y2) i hOk hb)
      clear hOk hs
      by_cases q0 : y0 = 0
      · subst q0
        generalize dropL s L = L1 at DR G1
        have l1 := G1.out.len
        go_wp2_with (first
          | (go_at_call 12; refine (HS2.out _).mono ?_; rintro e w1 ⟨rfl, hbel⟩; have B1 := Lib.hid (below_step HB.out hbel); have A1 := Lib.hid (HA.out.below hbel); have d0 := below_cell hbel c0; have d1 := below_cell hbel c1; have d2 := below_cell hbel c2; have hbl1 := Nat.lt_of_lt_of_le hbl hbel.size; clear hbel)
          | (go_at_call 13; refine (pick_of _ (by assumption)).mono ?_; rintro e w' ⟨rfl, rfl⟩)
          | (go_at_call 20; refine (DR.out _ A1.out).mono ?_; rintro e w2 ⟨A2, c2', rfl, hat, hbel⟩; have B2 := Lib.hid (below_step B1.out hbel); have A2' := Lib.hid hat; clear hat hbel))
        go_roundw
        case rel => first | exact ⟨i + 1, L1.length, A2, c2', L1, by omega, by omega, by go_num, rfl, l1, Lib.hid rfl, A2', G1, B2⟩ | ((repeat apply Exists.intro); exact ⟨⟨i + 1, L1.length, A2, c2', L1, by omega, by omega, by go_num, rfl, l1, Lib.hid rfl, A2', G1, B2⟩, rfl⟩)
        case measure => simp [intOf]; omega
      · by_cases q1 : y0 = 1
        · subst q1
          generalize expL y1 i L = L1 at EX G2
          have l1 := G2.out.len
          go_wp2_with (first
            | (go_at_call 12; refine (HS2.out _).mono ?_; rintro e w1 ⟨rfl, hbel⟩; have B1 := Lib.hid (below_step HB.out hbel); have A1 := Lib.hid (HA.out.below hbel); have d0 := below_cell hbel c0; have d1 := below_cell hbel c1; have d2 := below_cell hbel c2; have hbl1 := Nat.lt_of_lt_of_le hbl hbel.size; clear hbel)
            | (go_at_call 13; refine (pick_of _ (by assumption)).mono ?_; rintro e w' ⟨rfl, rfl⟩)
            | (go_at_call 18; refine (EX.out _ A1.out).mono ?_; rintro e w2 ⟨A2, c2', rfl, hat, hbel⟩; have B2 := Lib.hid (below_step B1.out hbel); have A2' := Lib.hid hat; clear hat hbel))
          go_roundw
          case rel => first | exact ⟨i + 1, L1.length, A2, c2', L1, by omega, by omega, by go_num, rfl, l1, Lib.hid rfl, A2', G2, B2⟩ | ((repeat apply Exists.intro); exact ⟨⟨i + 1, L1.length, A2, c2', L1, by omega, by omega, by go_num, rfl, l1, Lib.hid rfl, A2', G2, B2⟩, rfl⟩)
          case measure => simp [intOf]; omega
        · generalize putL (soS s) ⟨s, 1 + y2, i⟩ 8 L = L1 at PU G3
          cases hpb : putB (soS s) 8 L with
          | false =>
            rw [hpb] at PU
            clear hpb
            go_wp2_with (first
              | (go_at_call 12; refine (HS2.out _).mono ?_; rintro e w1 ⟨rfl, hbel⟩; have B1 := Lib.hid (below_step HB.out hbel); have A1 := Lib.hid (HA.out.below hbel); have d0 := below_cell hbel c0; have d1 := below_cell hbel c1; have d2 := below_cell hbel c2; have hbl1 := Nat.lt_of_lt_of_le hbl hbel.size; clear hbel)
              | (go_at_call 13; refine (pick_of _ (by assumption)).mono ?_; rintro e w' ⟨rfl, rfl⟩)
              | (go_at_call 15; refine (PU.out _ A1.out).mono ?_; rintro e w2 ⟨A2, c2', rfl, hat, hbel⟩; have B2 := Lib.hid (below_step B1.out hbel); have A2' := Lib.hid (A1.out.below hbel); clear hat hbel))
            go_roundw
            case rel => first | exact ⟨i + 1, m, A', c', L, by omega, by omega, by go_num, rfl, hm8, HL, A2', HG, B2⟩ | ((repeat apply Exists.intro); exact ⟨⟨i + 1, m, A', c', L, by omega, by omega, by go_num, rfl, hm8, HL, A2', HG, B2⟩, rfl⟩)
            case measure => simp [intOf]; omega
          | true =>
            rw [hpb] at PU
            have G4 := Lib.hid (G3.out hpb)
            have l1 := G4.out.len
            clear hpb
            go_wp2_with (first
              | (go_at_call 12; refine (HS2.out _).mono ?_; rintro e w1 ⟨rfl, hbel⟩; have B1 := Lib.hid (below_step HB.out hbel); have A1 := Lib.hid (HA.out.below hbel); have d0 := below_cell hbel c0; have d1 := below_cell hbel c1; have d2 := below_cell hbel c2; have hbl1 := Nat.lt_of_lt_of_le hbl hbel.size; clear hbel)
              | (go_at_call 13; refine (pick_of _ (by assumption)).mono ?_; rintro e w' ⟨rfl, rfl⟩)
              | (go_at_call 15; refine (PU.out _ A1.out).mono ?_; rintro e w2 ⟨A2, c2', rfl, hat, hbel⟩; have B2 := Lib.hid (below_step B1.out hbel); have A2' := Lib.hid hat; clear hat hbel))
            go_roundw
            case rel => first | exact ⟨i + 1, L1.length, A2, c2', L1, by omega, by omega, by go_num, rfl, l1, Lib.hid rfl, A2', G4, B2⟩ | ((repeat apply Exists.intro); exact ⟨⟨i + 1, L1.length, A2, c2', L1, by omega, by omega, by go_num, rfl, l1, Lib.hid rfl, A2', G4, B2⟩, rfl⟩)
            case measure => simp [intOf]; omega
    · by_cases hl1 : i < n
      · have g1 : decide ((i : Int) < 30) = false := decide_eq_false (by omega)
        go_wp2
        go_ret
        exact ⟨A', c', m, L, rfl, HA.out, HL.out, HG.out, HB.out⟩
      · go_wp2
        go_ret
        exact ⟨A', c', m, L, rfl, HA.out, HL.out, HG.out, HB.out⟩
end Go.Proofs.Ytjehhpppihmpgaa.Boo
