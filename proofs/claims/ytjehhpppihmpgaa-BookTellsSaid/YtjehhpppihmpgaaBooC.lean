/- Contracts of Name, the program's and the reference's. -/
import Derived.Test.YtjehhpppihmpgaaBooB
namespace Go.Proofs.Ytjehhpppihmpgaa.Boo
open Go.RowKit Go.Proofs.Ytjehhpppihmpgaa.Mem

theorem eqS_eq {a b : ByteArray} (h : eqS a b = true) : a = b := by
  unfold eqS at h
  rw [beq_iff_eq, ByteArray.toList_eq, ByteArray.toList_eq] at h
  obtain ⟨x⟩ := a
  obtain ⟨y⟩ := b
  have : x = y := Array.toList_inj.1 h
  rw [this]
theorem eqS_self (a : ByteArray) : eqS a a = true := by unfold eqS; exact beq_self_eq_true _
theorem eqS_ne {a b : ByteArray} (h : eqS a b = false) : a ≠ b := fun e => by rw [e, eqS_self] at h; cases h
theorem run_all (s : ByteArray) (h : s.data.toList.all alnB = true) : runI s ALNB = s.size := by
  unfold runI
  rw [if_pos (fI_none fun j y hj hy => by
    have := List.all_eq_true.1 h y (List.mem_of_getElem? hy)
    unfold notIn
    rw [aln_in]
    unfold alnB at this
    rw [this]; rfl)]
theorem run_not (s : ByteArray) (h : s.data.toList.all alnB = false) : 0 ≤ runI s ALNB ∧ runI s ALNB < s.size := by
  have hbd := fI_bd (notIn ALNB.data.toList) s.data.toList
  have hne : fI (notIn ALNB.data.toList) s.data.toList ≠ -1 := by
    intro e
    obtain ⟨x, hx, hp⟩ := List.all_eq_false.1 h
    unfold fI at e
    cases hf : s.data.toList.findIdx? (notIn ALNB.data.toList) with
    | none =>
      rw [List.findIdx?_eq_none_iff] at hf
      have h1 := hf x hx
      unfold notIn at h1
      rw [aln_in] at h1
      unfold alnB at hp
      cases hq : (letterB x || digitB x) with
      | true => exact hp hq
      | false => rw [hq] at h1; cases h1
    | some i => rw [hf] at e; simp at e
  unfold runI
  rw [if_neg hne]
  rw [size_list] at hbd
  omega
theorem empty_iff (s : ByteArray) : s.toList.isEmpty = decide (s.size = 0) := by
  rw [ByteArray.toList_eq, ← size_list]
  cases s.data.toList with
  | nil => rfl
  | cons a l => rw [decide_eq_false (by simp)]; rfl

theorem name_any (s : ByteArray) (w : World) (hs : s.size ≤ 9223372036854775807) : Calls Try.prog 29 #[.string s] w (Ret (.bool (nameB s)) w) := by
  have HW := Lib.hid (fun W => word_any s W)
  have HR := Lib.hid (fun W => run_any s ALNB W hs)
  have HL := Lib.hid (fun (c : UInt8) W => in_any LETB c W)
  by_cases h0 : 0 < s.size
  · have e0 : s.toList.isEmpty = false := by rw [empty_iff]; exact decide_eq_false (by omega)
    by_cases h1 : s.size ≤ 12
    · have hd : s.data.toList.headD 0 = s[0] := by
        have hb := byte_at s 0 h0
        cases hl : s.data.toList with
        | nil => rw [hl] at hb; simp at hb
        | cons a l => rw [hl] at hb; simpa using hb
      cases h2 : letterB s[0] with
      | true =>
        have HL2 := Lib.hid (fun W => HL.out s[0] W)
        rw [let_in, h2] at HL2
        cases h3 : s.data.toList.all alnB with
        | true =>
          rw [run_all s h3] at HR
          have HN : Hid (nameB s = !wordB s) := Lib.hid (by unfold nameB; rw [decide_eq_true h0, decide_eq_true h1, hd, h2, h3]; rfl)
          clear HL h2 h3 hd
          cases h4 : wordB s with
          | true =>
            rw [h4] at HW HN
            have HN2 := Lib.hid HN.out
            clear h4 HN
            go_enter Try.func29, Try.ntmps29
            go_wp2_with (first
              | (go_at_call 45; refine (HL2.out _).mono ?_; rintro e w' ⟨rfl, rfl⟩)
              | (go_at_call 46; refine (HR.out _).mono ?_; rintro e w' ⟨rfl, rfl⟩)
              | (go_at_call 47; refine (HW.out _).mono ?_; rintro e w' ⟨rfl, hb⟩; have HB := Lib.hid hb; clear hb))
            go_ret
            exact ⟨by rw [HN2.out]; rfl, HB.out⟩
          | false =>
            rw [h4] at HW HN
            have HN2 := Lib.hid HN.out
            clear h4 HN
            go_enter Try.func29, Try.ntmps29
            go_wp2_with (first
              | (go_at_call 45; refine (HL2.out _).mono ?_; rintro e w' ⟨rfl, rfl⟩)
              | (go_at_call 46; refine (HR.out _).mono ?_; rintro e w' ⟨rfl, rfl⟩)
              | (go_at_call 47; refine (HW.out _).mono ?_; rintro e w' ⟨rfl, hb⟩; have HB := Lib.hid hb; clear hb))
            go_ret
            exact ⟨by rw [HN2.out]; rfl, HB.out⟩
        | false =>
          obtain ⟨r0, r1⟩ := run_not s h3
          have HN : Hid (nameB s = false) := Lib.hid (by unfold nameB; rw [h3]; simp)
          generalize runI s ALNB = r at HR r0 r1
          have g1 : (r == (s.size : Int)) = false := by simp; omega
          clear HL h2 h3 hd
          go_enter Try.func29, Try.ntmps29
          go_wp2_with (first
            | (go_at_call 45; refine (HL2.out _).mono ?_; rintro e w' ⟨rfl, rfl⟩)
            | (go_at_call 46; refine (HR.out _).mono ?_; rintro e w' ⟨rfl, rfl⟩))
          go_ret
          exact ⟨by rw [HN.out]; rfl, Below.refl _ _⟩
      | false =>
        have HL2 := Lib.hid (fun W => HL.out s[0] W)
        rw [let_in, h2] at HL2
        have HN : Hid (nameB s = false) := Lib.hid (by unfold nameB; rw [hd, h2]; simp)
        clear HL h2 hd
        go_enter Try.func29, Try.ntmps29
        go_wp2_with (go_at_call 45; refine (HL2.out _).mono ?_; rintro e w' ⟨rfl, rfl⟩)
        go_ret
        exact ⟨by rw [HN.out]; rfl, Below.refl _ _⟩
    · have HN : Hid (nameB s = false) := Lib.hid (by unfold nameB; rw [decide_eq_false h1]; simp)
      go_enter Try.func29, Try.ntmps29
      go_wp2
      go_ret
      exact ⟨by rw [HN.out]; rfl, Below.refl _ _⟩
  · have e0 : s.toList.isEmpty = true := by rw [empty_iff]; exact decide_eq_true (by omega)
    have e1 : s.toList = [] := List.isEmpty_iff.1 e0
    have HN : Hid (nameB s = false) := Lib.hid (by unfold nameB; rw [decide_eq_false h0]; simp)
    go_enter Try.func29, Try.ntmps29
    go_wp2
    go_ret
    exact ⟨by rw [HN.out]; rfl, Below.refl _ _⟩

theorem rname_any (s : ByteArray) (w : World) (hs : s.size ≤ 9223372036854775807) : Calls Try.prog 32 #[.string s] w (Ret (.bool (nameB s)) w) := by
  have HW := Lib.hid (fun W => rword_any s W)
  have HL := Lib.hid (fun (c : UInt8) W => letter_any c W)
  have HD := Lib.hid (fun (c : UInt8) W => digit_any c W)
  by_cases h0 : 0 < s.size
  · have e0 : s.toList.isEmpty = false := by rw [empty_iff]; exact decide_eq_false (by omega)
    by_cases h1 : s.size ≤ 12
    · have hd : s.data.toList.headD 0 = s[0] := by
        have hb := byte_at s 0 h0
        cases hl : s.data.toList with
        | nil => rw [hl] at hb; simp at hb
        | cons a l => rw [hl] at hb; simpa using hb
      cases h2 : letterB s[0] with
      | true =>
        have HL2 := Lib.hid (fun W => HL.out s[0] W)
        rw [h2] at HL2
        cases h4 : wordB s with
        | true =>
          rw [h4] at HW
          have HN : Hid (nameB s = false) := Lib.hid (by unfold nameB; rw [h4]; simp)
          clear HL h2 h4 hd
          go_enter Try.func32, Try.ntmps32
          go_wp2_with (first
            | (go_at_call 49; refine (HL2.out _).mono ?_; rintro e w' ⟨rfl, rfl⟩)
            | (go_at_call 50; refine (HW.out _).mono ?_; rintro e w' ⟨rfl, hb⟩; have HB := Lib.hid hb; clear hb))
          go_ret
          exact ⟨by rw [HN.out]; rfl, HB.out⟩
        | false =>
          rw [h4] at HW
          have HN : Hid (nameB s = s.data.toList.all alnB) := Lib.hid (by unfold nameB; rw [decide_eq_true h0, decide_eq_true h1, hd, h2, h4]; simp)
          clear h2 h4 hd
          go_enter Try.func32, Try.ntmps32
          go_wp2_with (first
            | (go_at_call 49; refine (HL2.out _).mono ?_; rintro e w' ⟨rfl, rfl⟩)
            | (go_at_call 50; refine (HW.out _).mono ?_; rintro e w1 ⟨rfl, hb⟩; have HB := Lib.hid hb; clear hb))
          go_loop [3] (fun iv => ∃ k : Nat, k ≤ s.size ∧ iv = .int .i64 k ∧ Hid (∀ j y, j < k → s.data.toList[j]? = some y → alnB y = true)) (fun iv => s.size - (intOf iv).toNat)
          case atStart => exact ⟨0, Nat.zero_le _, rfl, fun j y hj => absurd hj (Nat.not_lt_zero _)⟩
          case round =>
            obtain ⟨k, hk, rfl, HK⟩ := hrel
            by_cases hlt : k < s.size
            · have HX := Lib.hid (byte_at s k hlt)
              have HL3 := Lib.hid (fun W => HL.out s[k] W)
              have HD3 := Lib.hid (fun W => HD.out s[k] W)
              cases hl : letterB s[k] with
              | true =>
                rw [hl] at HL3
                have ha : alnB s[k] = true := by unfold alnB; rw [hl]; rfl
                have HA := Lib.hid ha
                clear hl ha
                go_wp2_with (go_at_call 49; refine (HL3.out _).mono ?_; rintro e w' ⟨rfl, rfl⟩)
                go_round
                case rel =>
                  refine ⟨k + 1, by omega, by go_num, fun j y hj hy => ?_⟩
                  by_cases hjk : j < k
                  · exact HK.out j y hjk hy
                  · obtain rfl : j = k := by omega
                    rw [HX.out] at hy
                    rw [← Option.some.inj hy]
                    exact HA.out
                case measure => simp [intOf]; omega
              | false =>
                rw [hl] at HL3
                cases hg : digitB s[k] with
                | true =>
                  rw [hg] at HD3
                  have ha : alnB s[k] = true := by unfold alnB; rw [hl, hg]; rfl
                  have HA := Lib.hid ha
                  clear hl hg ha
                  go_wp2_with (first
                    | (go_at_call 49; refine (HL3.out _).mono ?_; rintro e w' ⟨rfl, rfl⟩)
                    | (go_at_call 51; refine (HD3.out _).mono ?_; rintro e w' ⟨rfl, rfl⟩))
                  go_round
                  case rel =>
                    refine ⟨k + 1, by omega, by go_num, fun j y hj hy => ?_⟩
                    by_cases hjk : j < k
                    · exact HK.out j y hjk hy
                    · obtain rfl : j = k := by omega
                      rw [HX.out] at hy
                      rw [← Option.some.inj hy]
                      exact HA.out
                  case measure => simp [intOf]; omega
                | false =>
                  rw [hg] at HD3
                  have hf : s.data.toList.all alnB = false := by
                    rw [List.all_eq_false]
                    exact ⟨s[k], List.mem_of_getElem? HX.out, by unfold alnB; rw [hl, hg]; decide⟩
                  have HF := Lib.hid (HN.out.trans hf)
                  clear hl hg hf
                  go_wp2_with (first
                    | (go_at_call 49; refine (HL3.out _).mono ?_; rintro e w' ⟨rfl, rfl⟩)
                    | (go_at_call 51; refine (HD3.out _).mono ?_; rintro e w' ⟨rfl, rfl⟩))
                  go_ret
                  exact ⟨by rw [HF.out]; rfl, HB.out⟩
            · obtain rfl : k = s.size := by omega
              have hf : s.data.toList.all alnB = true := by
                rw [List.all_eq_true]
                intro y hy
                obtain ⟨j, hj, rfl⟩ := List.mem_iff_getElem.1 hy
                exact HK.out j _ (by rw [← size_list]; exact hj) (List.getElem?_eq_getElem hj)
              have HF := Lib.hid (HN.out.trans hf)
              clear hf
              go_wp2
              go_ret
              exact ⟨by rw [HF.out]; rfl, HB.out⟩
      | false =>
        have HL2 := Lib.hid (fun W => HL.out s[0] W)
        rw [h2] at HL2
        have HN : Hid (nameB s = false) := Lib.hid (by unfold nameB; rw [hd, h2]; simp)
        clear HL h2 hd
        go_enter Try.func32, Try.ntmps32
        go_wp2_with (go_at_call 49; refine (HL2.out _).mono ?_; rintro e w' ⟨rfl, rfl⟩)
        go_ret
        exact ⟨by rw [HN.out]; rfl, Below.refl _ _⟩
    · have HN : Hid (nameB s = false) := Lib.hid (by unfold nameB; rw [decide_eq_false h1]; simp)
      go_enter Try.func32, Try.ntmps32
      go_wp2
      go_ret
      exact ⟨by rw [HN.out]; rfl, Below.refl _ _⟩
  · have e0 : s.toList.isEmpty = true := by rw [empty_iff]; exact decide_eq_true (by omega)
    have e1 : s.toList = [] := List.isEmpty_iff.1 e0
    have HN : Hid (nameB s = false) := Lib.hid (by unfold nameB; rw [decide_eq_false h0]; simp)
    go_enter Try.func32, Try.ntmps32
    go_wp2
    go_ret
    exact ⟨by rw [HN.out]; rfl, Below.refl _ _⟩
end Go.Proofs.Ytjehhpppihmpgaa.Boo
