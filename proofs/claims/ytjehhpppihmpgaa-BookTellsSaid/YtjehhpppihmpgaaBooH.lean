/- Put and the reference's at and Put. -/
import Derived.Test.YtjehhpppihmpgaaBooG
namespace Go.Proofs.Ytjehhpppihmpgaa.Boo
open Go.RowKit Go.Proofs.Ytjehhpppihmpgaa.Mem

theorem at_any (A : Option Addr) (c n : Nat) (xs : List Slot) (hn : xs.length = n) (s : ByteArray) (w : World) (h : dL.At w A c xs) : Calls Try.prog 33 #[.slice A n c, .string s] w fun e w' => e = .returned (.int .i64 (fI (soS s) xs)) ∧ w = w' := by
  have H := Lib.hid h
  have hle : n ≤ c := by rw [← hn]; exact h.le
  have hmax := h.max
  have HN := Lib.hid hn
  clear h hn
  go_enter Try.func33, Try.ntmps33
  go_wp2
  go_loop [5] (fun iv => ∃ k : Nat, k ≤ n ∧ iv = .int .i64 k ∧ Hid (∀ j y, j < k → xs[j]? = some y → soS s y = false)) (fun iv => n - (intOf iv).toNat)
  case atStart => exact ⟨0, Nat.zero_le _, rfl, fun j y hj => absurd hj (Nat.not_lt_zero _)⟩
  case round =>
    obtain ⟨k, hk, rfl, HB⟩ := hrel
    by_cases hlt : k < n
    · have hx : xs[k]? = some (xs[k]'(by have := HN.out; omega)) := List.getElem?_eq_getElem _
      obtain ⟨b, off, rfl, hbl, c0, c1, c2⟩ := at_getL H.out k _ hx
      generalize xs[k]'(by have := HN.out; omega) = x at c0 c1 c2 hx
      have HX := Lib.hid hx
      clear hx
      cases hb : soS s x with
      | false =>
        have g1 : (x.s.toList == s.toList) = false := hb
        have HN2 := Lib.hid hb
        clear hb
        go_wp2
        go_round
        case rel => exact ⟨k + 1, by omega, by go_num, Lib.hid (fI_step HX.out HN2.out HB.out)⟩
        case measure => simp [intOf]; omega
      | true =>
        have g1 : (x.s.toList == s.toList) = true := hb
        have HE := Lib.hid (fI_hit HX.out hb HB.out)
        clear hb
        go_wp2
        go_ret
        exact ⟨ret1 HE.out.symm, rfl⟩
    · obtain rfl : k = n := by omega
      have HE := Lib.hid (fI_none (p := soS s) (xs := xs) (fun j y hj hy => HB.out j y (by have := HN.out; omega) hy))
      go_wp2
      go_ret
      exact ⟨ret1 HE.out.symm, rfl⟩
theorem own1 (w : World) (y : Slot) : dL.At ((w.alloc (.cells #[.string y.s, .int .i64 y.p, .int .i64 y.t] 50)).alloc (.cells #[.string y.s, .int .i64 y.p, .int .i64 y.t] 50)) (some ⟨w.heap.size + 1, 0, none⟩) 1 [y] := by
  have := (En.Own.lit dL (w.alloc (.cells #[.string y.s, .int .i64 y.p, .int .i64 y.t] 50)) 0 50 #[.string y.s, .int .i64 y.p, .int .i64 y.t] [y] (Nat.zero_le _) (by simp) rfl).at_
  rw [show (w.alloc (.cells #[.string y.s, .int .i64 y.p, .int .i64 y.t] 50)).heap.size = w.heap.size + 1 by simp] at this
  exact this
def okP (s : ByteArray) (p t : Int) : Bool := nameB s && decide (1 ≤ p ∧ p ≤ 1000000000000 ∧ 0 ≤ t ∧ t ≤ 1099511627776)
def putX (s : ByteArray) (p t : Int) (xs : List Slot) : List Slot := if okP s p t then putL (soS s) ⟨s, p, t⟩ 8 xs else []
def putE (s : ByteArray) (p t : Int) (xs : List Slot) : Int := if okP s p t then (if putB (soS s) 8 xs then 0 else 50) else 1
def MadeE (w : World) (xs : List Slot) (n : Nat) (e : Int) (r : Ending) (w' : World) : Prop := ∃ A c, r = .returned (.tuple #[.slice A n c, .int .i64 e]) ∧ dL.At w' A c xs ∧ Below w.heap.size w w'
theorem putB_no {α : Type} {so : α → Bool} {y : α} {m : Nat} {xs : List α} (h : putB so m xs = false) : putL so y m xs = [] := by
  unfold putB at h
  unfold putL
  split at h
  · rename_i h'
    rw [if_pos h', if_pos (by simpa using h)]
  · cases h
theorem put_bad (A : Option Addr) (c n : Nat) (s : ByteArray) (p t : Int) (w : World) (hs : s.size ≤ 9223372036854775807) (hk : okP s p t = false) :
    Calls Try.prog 14 #[.slice A n c, .string s, .int .i64 p, .int .i64 t] w (MadeE w [] 0 1) := by
  have HN := Lib.hid (fun W => name_any s W hs)
  unfold okP at hk
  cases hn : nameB s with
  | false =>
    rw [hn] at HN
    clear hk hn hs
    go_enter Try.func14, Try.ntmps14
    go_wp2_with (go_at_call 29; refine (HN.out _).mono ?_; rintro e w1 ⟨rfl, hbel⟩; have HB := Lib.hid hbel; clear hbel)
    go_ret2
    exact ⟨none, 0, rfl, En.At.none_, HB.out⟩
  | true =>
    rw [hn] at HN
    rw [hn, Bool.true_and, decide_eq_false_iff_not] at hk
    clear hn hs
    by_cases g0 : p < 1
    · clear hk
      go_enter Try.func14, Try.ntmps14
      go_wp2_with (go_at_call 29; refine (HN.out _).mono ?_; rintro e w1 ⟨rfl, hbel⟩; have HB := Lib.hid hbel; clear hbel)
      go_ret2
      exact ⟨none, 0, rfl, En.At.none_, HB.out⟩
    by_cases g1 : 1000000000000 < p
    · clear hk
      go_enter Try.func14, Try.ntmps14
      go_wp2_with (go_at_call 29; refine (HN.out _).mono ?_; rintro e w1 ⟨rfl, hbel⟩; have HB := Lib.hid hbel; clear hbel)
      go_ret2
      exact ⟨none, 0, rfl, En.At.none_, HB.out⟩
    by_cases g2 : t < 0
    · clear hk
      go_enter Try.func14, Try.ntmps14
      go_wp2_with (go_at_call 29; refine (HN.out _).mono ?_; rintro e w1 ⟨rfl, hbel⟩; have HB := Lib.hid hbel; clear hbel)
      go_ret2
      exact ⟨none, 0, rfl, En.At.none_, HB.out⟩
    by_cases g3 : 1099511627776 < t
    · clear hk
      go_enter Try.func14, Try.ntmps14
      go_wp2_with (go_at_call 29; refine (HN.out _).mono ?_; rintro e w1 ⟨rfl, hbel⟩; have HB := Lib.hid hbel; clear hbel)
      go_ret2
      exact ⟨none, 0, rfl, En.At.none_, HB.out⟩
    exact absurd ⟨by omega, by omega, by omega, by omega⟩ hk
theorem rput_bad (A : Option Addr) (c n : Nat) (s : ByteArray) (p t : Int) (w : World) (hs : s.size ≤ 9223372036854775807) (hk : okP s p t = false) :
    Calls Try.prog 15 #[.slice A n c, .string s, .int .i64 p, .int .i64 t] w (MadeE w [] 0 1) := by
  have HN := Lib.hid (fun W => rname_any s W hs)
  unfold okP at hk
  cases hn : nameB s with
  | false =>
    rw [hn] at HN
    clear hk hn hs
    go_enter Try.func15, Try.ntmps15
    go_wp2_with (go_at_call 32; refine (HN.out _).mono ?_; rintro e w1 ⟨rfl, hbel⟩; have HB := Lib.hid hbel; clear hbel)
    go_ret2
    exact ⟨none, 0, rfl, En.At.none_, HB.out⟩
  | true =>
    rw [hn] at HN
    rw [hn, Bool.true_and, decide_eq_false_iff_not] at hk
    clear hn hs
    by_cases g0 : p < 1
    · clear hk
      go_enter Try.func15, Try.ntmps15
      go_wp2_with (go_at_call 32; refine (HN.out _).mono ?_; rintro e w1 ⟨rfl, hbel⟩; have HB := Lib.hid hbel; clear hbel)
      go_ret2
      exact ⟨none, 0, rfl, En.At.none_, HB.out⟩
    by_cases g1 : 1000000000000 < p
    · clear hk
      go_enter Try.func15, Try.ntmps15
      go_wp2_with (go_at_call 32; refine (HN.out _).mono ?_; rintro e w1 ⟨rfl, hbel⟩; have HB := Lib.hid hbel; clear hbel)
      go_ret2
      exact ⟨none, 0, rfl, En.At.none_, HB.out⟩
    by_cases g2 : t < 0
    · clear hk
      go_enter Try.func15, Try.ntmps15
      go_wp2_with (go_at_call 32; refine (HN.out _).mono ?_; rintro e w1 ⟨rfl, hbel⟩; have HB := Lib.hid hbel; clear hbel)
      go_ret2
      exact ⟨none, 0, rfl, En.At.none_, HB.out⟩
    by_cases g3 : 1099511627776 < t
    · clear hk
      go_enter Try.func15, Try.ntmps15
      go_wp2_with (go_at_call 32; refine (HN.out _).mono ?_; rintro e w1 ⟨rfl, hbel⟩; have HB := Lib.hid hbel; clear hbel)
      go_ret2
      exact ⟨none, 0, rfl, En.At.none_, HB.out⟩
    exact absurd ⟨by omega, by omega, by omega, by omega⟩ hk
theorem put_good (A : Option Addr) (c n : Nat) (xs : List Slot) (hn : xs.length = n) (s : ByteArray) (p t : Int) (w : World) (h : dL.At w A c xs) (hb : n * 32 ≤ 140737488355328) (hs : s.size ≤ 9223372036854775807) (hk : okP s p t = true) (b : Bool) (hbb : putB (soS s) 8 xs = b) :
    Calls Try.prog 14 #[.slice A n c, .string s, .int .i64 p, .int .i64 t] w (MadeE w (putL (soS s) ⟨s, p, t⟩ 8 xs) (putL (soS s) ⟨s, p, t⟩ 8 xs).length (if b then 0 else 50)) := by
  have HN := Lib.hid (fun W => name_any s W hs)
  unfold okP at hk
  rw [Bool.and_eq_true, decide_eq_true_iff] at hk
  obtain ⟨hn1, g0, g1, g2, g3⟩ := hk
  rw [hn1] at HN
  have H := Lib.hid h
  have HW := Lib.hid (fun (B : Nat) (W : World) (hS : AtS W B s) (hA : dL.At W A c xs) => withL_any A c n 8 xs hn ⟨s, p, t⟩ (soS s) 48 #[.pointer (some ⟨B, 0, none⟩)] W ent48 hA hb (by decide) (fun x W' hW => of1_any x s B W' (hS.below hW)))
  rw [hbb] at HW
  have hg0 : ¬ (p < 1) := by omega
  have hg1 : ¬ (1000000000000 < p) := by omega
  have hg2 : ¬ (t < 0) := by omega
  have hg3 : ¬ (1099511627776 < t) := by omega
  cases b with
  | false =>
    rw [putB_no hbb] at HW ⊢
    clear h hn hn1 hs hbb
    go_enter Try.func14, Try.ntmps14
    go_wp2_with (first
      | (go_at_call 29; refine (HN.out _).mono ?_; rintro e w1 ⟨rfl, hbel⟩; have HB := Lib.hid hbel; have HA := Lib.hid (H.out.below hbel); clear hbel)
      | (go_at_call 31; refine (of_any s _).mono ?_; rintro e w2 ⟨B, rfl, hs, hge, hbel⟩; have HS := Lib.hid hs; have HB2 := Lib.hid (below_step HB.out hbel); have HA2 := Lib.hid (HA.out.below hbel); clear hs hge hbel)
      | (go_at_call 30; refine (HW.out B _ HS.out HA2.out).mono ?_; rintro e w3 ⟨A3, c3, rfl, hown, hbel⟩; have HB3 := Lib.hid (below_step HB2.out hbel); clear hown hbel))
    go_ret2
    exact ⟨none, 0, rfl, En.At.none_, HB3.out⟩
  | true =>
    clear h hn hn1 hs hbb
    go_enter Try.func14, Try.ntmps14
    go_wp2_with (first
      | (go_at_call 29; refine (HN.out _).mono ?_; rintro e w1 ⟨rfl, hbel⟩; have HB := Lib.hid hbel; have HA := Lib.hid (H.out.below hbel); clear hbel)
      | (go_at_call 31; refine (of_any s _).mono ?_; rintro e w2 ⟨B, rfl, hs, hge, hbel⟩; have HS := Lib.hid hs; have HB2 := Lib.hid (below_step HB.out hbel); have HA2 := Lib.hid (HA.out.below hbel); clear hs hge hbel)
      | (go_at_call 30; refine (HW.out B _ HS.out HA2.out).mono ?_; rintro e w3 ⟨A3, c3, rfl, hown, hbel⟩; have HB3 := Lib.hid (below_step HB2.out hbel); have HO := Lib.hid hown.at_; clear hown hbel))
    go_ret2
    exact ⟨A3, c3, rfl, HO.out, HB3.out⟩
theorem put_any (A : Option Addr) (c n : Nat) (xs : List Slot) (hn : xs.length = n) (s : ByteArray) (p t : Int) (w : World) (h : dL.At w A c xs) (hb : n * 32 ≤ 140737488355328) (hs : s.size ≤ 9223372036854775807) :
    Calls Try.prog 14 #[.slice A n c, .string s, .int .i64 p, .int .i64 t] w (MadeE w (putX s p t xs) (putX s p t xs).length (putE s p t xs)) := by
  unfold putX putE
  cases hk : okP s p t with
  | false => exact put_bad A c n s p t w hs hk
  | true => exact put_good A c n xs hn s p t w h hb hs hk _ rfl
theorem rput_good (A : Option Addr) (c n : Nat) (xs : List Slot) (hn : xs.length = n) (s : ByteArray) (p t : Int) (w : World) (h : dL.At w A c xs) (hb : n * 32 ≤ 140737488355328) (hs : s.size ≤ 9223372036854775807) (hk : okP s p t = true) :
    Calls Try.prog 15 #[.slice A n c, .string s, .int .i64 p, .int .i64 t] w (MadeE w (putL (soS s) ⟨s, p, t⟩ 8 xs) (putL (soS s) ⟨s, p, t⟩ 8 xs).length (if putB (soS s) 8 xs then 0 else 50)) := by
  obtain ⟨i0, hi, iz, isz, iby⟩ := info_parts info50
  have HN := Lib.hid (fun W => rname_any s W hs)
  unfold okP at hk
  rw [Bool.and_eq_true, decide_eq_true_iff] at hk
  obtain ⟨hn1, g0, g1, g2, g3⟩ := hk
  rw [hn1] at HN
  have H := Lib.hid h
  have hle : n ≤ c := by rw [← hn]; exact h.le
  have hmax := h.max
  have HT := Lib.hid (fun (W : World) (hA : dL.At W A c xs) => at_any A c n xs hn s W hA)
  have HL := Lib.hid hn
  have hg0 : ¬ (p < 1) := by omega
  have hg1 : ¬ (1000000000000 < p) := by omega
  have hg2 : ¬ (t < 0) := by omega
  have hg3 : ¬ (1099511627776 < t) := by omega
  by_cases hf : fI (soS s) xs = -1
  · rw [hf] at HT
    by_cases hr : 8 ≤ n
    · have e1 : putL (soS s) ⟨s, p, t⟩ 8 xs = [] := by unfold putL; rw [if_pos hf, if_pos (by rw [hn]; exact hr)]
      have e2 : putB (soS s) 8 xs = false := by unfold putB; rw [if_pos hf]; exact decide_eq_false (by rw [hn]; omega)
      rw [e1, e2]
      clear e1 e2 hf h hn hn1 hs
      go_enter Try.func15, Try.ntmps15
      go_wp2_with (first
        | (go_at_call 32; refine (HN.out _).mono ?_; rintro e w1 ⟨rfl, hbel⟩; have HB := Lib.hid hbel; have HA := Lib.hid (H.out.below hbel); clear hbel)
        | (at_builtin; refine wpList_app dL _ rfl _ _ 23 rfl w1.heap.size 50 i0 _ 32 Try.underlying23 hi iz isz iby rfl none 0 0 [] rfl rfl (En.Own.none_ _ _ _) A c n xs rfl HL.out.symm HA.out (by have := HL.out; simp; omega) (by have := HL.out; simp; omega) (Nat.le_refl _) ?_
           rw [List.nil_append, HL.out]
           intro A2 c2 w2 hown hg hat
           have HO := Lib.hid hown
           have HB2 := Lib.hid (below_grown (Below.refl _ _) hg (fun k hk => by simp [Value.ownBlock] at hk))
           have HZ := Lib.hid HB.out.size
           clear hown hg hat)
        | (go_at_call 33; refine (HT.out _ ((HA.out.below HB2.out).below (below_alloc (Below.refl _ _) _))).mono ?_; rintro e w3 ⟨rfl, rfl⟩; have HB4 := Lib.hid (below_alloc (below_step HB.out HB2.out) (.cells #[.string s, .int .i64 p, .int .i64 t] 50)); skip))
      go_ret2
      exact ⟨none, 0, rfl, En.At.none_, HB4.out⟩
    · have e1 : putL (soS s) ⟨s, p, t⟩ 8 xs = xs ++ [⟨s, p, t⟩] := by unfold putL; rw [if_pos hf, if_neg (by rw [hn]; exact hr)]
      have e2 : putB (soS s) 8 xs = true := by unfold putB; rw [if_pos hf]; exact decide_eq_true (by rw [hn]; omega)
      rw [e1, e2]
      clear e1 e2 hf h hn hn1 hs
      go_enter Try.func15, Try.ntmps15
      go_wp2_with (first
        | (at_builtin; have HB5 := HB4; refine wpList_app dL _ rfl _ _ 23 rfl w1.heap.size 50 i0 _ 32 Try.underlying23 hi iz isz iby rfl A2 c2 n xs rfl HL.out.symm ?own (some ⟨w2.heap.size + 1, 0, none⟩) 1 1 [⟨s, p, t⟩] rfl rfl ?at_ ?m1 ?m2 ?m3 ?_)
        | (go_at_call 32; refine (HN.out _).mono ?_; rintro e w1 ⟨rfl, hbel⟩; have HB := Lib.hid hbel; have HA := Lib.hid (H.out.below hbel); clear hbel)
        | (at_builtin; refine wpList_app dL _ rfl _ _ 23 rfl w1.heap.size 50 i0 _ 32 Try.underlying23 hi iz isz iby rfl none 0 0 [] rfl rfl (En.Own.none_ _ _ _) A c n xs rfl HL.out.symm HA.out (by have := HL.out; simp; omega) (by have := HL.out; simp; omega) (Nat.le_refl _) ?_
           rw [List.nil_append, HL.out]
           intro A2 c2 w2 hown hg hat
           have HO := Lib.hid hown
           have HB2 := Lib.hid (below_grown (Below.refl _ _) hg (fun k hk => by simp [Value.ownBlock] at hk))
           have HZ := Lib.hid HB.out.size
           clear hown hg hat)
        | (go_at_call 33; refine (HT.out _ ((HA.out.below HB2.out).below (below_alloc (Below.refl _ _) _))).mono ?_; rintro e w3 ⟨rfl, rfl⟩; have HB4 := Lib.hid (below_alloc (below_step HB.out HB2.out) (.cells #[.string s, .int .i64 p, .int .i64 t] 50)); skip))
      case own => exact HO.out.below (below_alloc (below_alloc (Below.refl _ _) _) _)
      case at_ => exact own1 w2 ⟨s, p, t⟩
      case m1 => rw [HL.out]; simp; omega
      case m2 => rw [HL.out]; simp; omega
      case m3 => have := HB2.out.size; have := HZ.out; simp; omega
      intro A3 c3 w3 hown hg hat
      have HO3 := Lib.hid hown
      have HG := Lib.hid hg
      clear hown hg hat
      go_wp2
      go_ret2
      exact ⟨A3, c3, by simp, HO3.out.at_, below_grown (below_alloc HB4.out _) HG.out (fun q hq => by have := (HO.out.row q hq).1; have := HB.out.size; omega)⟩
  · obtain ⟨k, x, hk, hx, _⟩ := fI_get hf
    have e1 : putL (soS s) ⟨s, p, t⟩ 8 xs = xs.set k ⟨s, p, t⟩ := by unfold putL; rw [if_neg hf, hk]; rfl
    have e2 : putB (soS s) 8 xs = true := by unfold putB; rw [if_neg hf]
    have e3 : (xs.set k ⟨s, p, t⟩).length = n := by rw [List.length_set]; exact hn
    rw [e1, e2, e3]
    rw [hk] at HT
    have hkn : k < n := by rw [← hn]; exact (List.getElem?_eq_some_iff.1 hx).1
    have HX := Lib.hid hx
    clear e1 e2 e3 hf hk hx h hn hn1 hs
    go_enter Try.func15, Try.ntmps15
    go_wp2_with (first
      | (go_at_call 32; refine (HN.out _).mono ?_; rintro e w1 ⟨rfl, hbel⟩; have HB := Lib.hid hbel; have HA := Lib.hid (H.out.below hbel); clear hbel)
      | (at_builtin; refine wpList_app dL _ rfl _ _ 23 rfl w1.heap.size 50 i0 _ 32 Try.underlying23 hi iz isz iby rfl none 0 0 [] rfl rfl (En.Own.none_ _ _ _) A c n xs rfl HL.out.symm HA.out (by have := HL.out; simp; omega) (by have := HL.out; simp; omega) (Nat.le_refl _) ?_
         rw [List.nil_append, HL.out]
         intro A2 c2 w2 hown hg hat
         have HO := Lib.hid hown
         have HB2 := Lib.hid (below_grown (Below.refl _ _) hg (fun k hk => by simp [Value.ownBlock] at hk))
         have HZ := Lib.hid HB.out.size
         clear hown hg hat)
      | (go_at_call 33; refine (HT.out _ ((HA.out.below HB2.out).below (below_alloc (Below.refl _ _) _))).mono ?_; rintro e w3 ⟨rfl, rfl⟩; have HB4 := Lib.hid (below_alloc (below_step HB.out HB2.out) (.cells #[.string s, .int .i64 p, .int .i64 t] 50)); have HO4 := Lib.hid (HO.out.below (below_alloc (Below.refl _ _) (.cells #[.string s, .int .i64 p, .int .i64 t] 50))); obtain ⟨g, rfl, hge, hgl, r0, r1, r2⟩ := own_getL HO.out k _ HX.out; have f0 := HO.out.free (k * 3); have f1 := HO.out.free (k * 3 + 1); have f2 := HO.out.free (k * 3 + 2); have hlt2 : g < w2.heap.size := (by obtain ⟨_, _, h⟩ := own_at0 HO.out; exact h); have hne : g ≠ w2.heap.size := (by omega); have hne2 : w2.heap.size ≠ g := (by omega)))
    go_ret2
    refine ⟨some ⟨g, 0, none⟩, c2, rfl, ((own_setL HO.out k x ⟨s, p, t⟩ HX.out).at_).below (below_alloc (Below.refl _ _) _), ?_⟩
    have hgw : w.heap.size ≤ g := by have := HB.out.size; omega
    exact below_alloc (below_set (below_set (below_set (below_step HB.out HB2.out) hgw _) hgw _) hgw _) _
theorem rput_any (A : Option Addr) (c n : Nat) (xs : List Slot) (hn : xs.length = n) (s : ByteArray) (p t : Int) (w : World) (h : dL.At w A c xs) (hb : n * 32 ≤ 140737488355328) (hs : s.size ≤ 9223372036854775807) :
    Calls Try.prog 15 #[.slice A n c, .string s, .int .i64 p, .int .i64 t] w (MadeE w (putX s p t xs) (putX s p t xs).length (putE s p t xs)) := by
  unfold putX putE
  cases hk : okP s p t with
  | false => exact rput_bad A c n s p t w hs hk
  | true => exact rput_good A c n xs hn s p t w h hb hs hk
end Go.Proofs.Ytjehhpppihmpgaa.Boo
