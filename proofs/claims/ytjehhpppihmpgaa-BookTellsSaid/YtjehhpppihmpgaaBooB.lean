/- Contracts of Word and Name, the program's and the reference's. -/
import Derived.Test.YtjehhpppihmpgaaBooA
namespace Go.Proofs.Ytjehhpppihmpgaa.Boo
open Go.RowKit Go.Proofs.Ytjehhpppihmpgaa.Mem

abbrev LETB : ByteArray := ⟨#[97, 98, 99, 100, 101, 102, 103, 104, 105, 106, 107, 108, 109, 110, 111, 112, 113, 114, 115, 116, 117, 118, 119, 120, 121, 122]⟩
abbrev ALNB : ByteArray := ⟨#[97, 98, 99, 100, 101, 102, 103, 104, 105, 106, 107, 108, 109, 110, 111, 112, 113, 114, 115, 116, 117, 118, 119, 120, 121, 122, 48, 49, 50, 51, 52, 53, 54, 55, 56, 57]⟩
abbrev W11 : List ByteArray := [⟨#[108, 111, 119, 101, 115, 116]⟩, ⟨#[115, 101, 99, 111, 110, 100]⟩, ⟨#[102, 114, 111, 109]⟩, ⟨#[108, 101, 115, 115]⟩, ⟨#[99, 117, 116]⟩, ⟨#[109, 105, 110]⟩, ⟨#[109, 97, 120]⟩, ⟨#[101, 108, 115, 101]⟩, ⟨#[105, 102]⟩, ⟨#[109, 111, 114, 101]⟩, ⟨#[97, 98, 111, 118, 101]⟩]
abbrev C11 : Array Value := #[.string ⟨#[108, 111, 119, 101, 115, 116]⟩, .string ⟨#[115, 101, 99, 111, 110, 100]⟩, .string ⟨#[102, 114, 111, 109]⟩, .string ⟨#[108, 101, 115, 115]⟩, .string ⟨#[99, 117, 116]⟩, .string ⟨#[109, 105, 110]⟩, .string ⟨#[109, 97, 120]⟩, .string ⟨#[101, 108, 115, 101]⟩, .string ⟨#[105, 102]⟩, .string ⟨#[109, 111, 114, 101]⟩, .string ⟨#[97, 98, 111, 118, 101]⟩]
def Ret (v : Value) (w : World) (e : Ending) (w' : World) : Prop := e = .returned v ∧ Below w.heap.size w w'
theorem litW (w : World) : dT.Own 9 (w.alloc (.cells C11 9)) w.heap.size (some ⟨w.heap.size, 0, none⟩) 11 W11 :=
  En.Own.lit dT w w.heap.size 9 C11 W11 (Nat.le_refl _) (by decide) rfl
def wordB (s : ByteArray) : Bool := W11.any (eqS s)
theorem word_any (s : ByteArray) (w : World) : Calls Try.prog 47 #[.string s] w (Ret (.bool (wordB s)) w) := by
  have HC : Hid (Calls Try.prog 55 #[.slice (some ⟨w.heap.size, 0, none⟩) 11 11, .string s] (w.alloc (.cells C11 9)) fun e w' => e = .returned (.bool (wordB s)) ∧ w.alloc (.cells C11 9) = w') := contains_any _ 11 11 W11 rfl s _ (litW w).at_
  generalize wordB s = b at HC ⊢
  go_enter Try.func47, Try.ntmps47
  go_wp2_with (go_at_call 55; refine HC.out.mono ?_; rintro e w' ⟨rfl, rfl⟩)
  go_ret
  exact ⟨rfl, below_alloc (Below.refl _ _) _⟩
theorem eqS_comm (a b : ByteArray) : eqS a b = eqS b a := by unfold eqS; exact Bool.beq_comm
set_option maxRecDepth 10000 in
theorem rword_any (s : ByteArray) (w : World) : Calls Try.prog 50 #[.string s] w (Ret (.bool (wordB s)) w) := by
  have HA := Lib.hid (litW w).at_
  go_enter Try.func50, Try.ntmps50
  go_wp2
  obtain ⟨W, hW⟩ : ∃ W, w.alloc (.cells C11 9) = W := ⟨_, rfl⟩
  have HB : Hid (Below w.heap.size w W) := by rw [← hW]; exact below_alloc (Below.refl _ _) _
  have HA2 : Hid (dT.At W (some ⟨w.heap.size, 0, none⟩) 11 W11) := by rw [← hW]; exact HA.out
  change Code.wp _ _ _ _ (w.alloc (.cells C11 9))
  rw [hW]
  clear hW HA
  generalize w.heap.size = g at HA2 ⊢
  go_loop [4] (fun iv => ∃ k : Nat, k ≤ 11 ∧ iv = .int .i64 k ∧ Hid (∀ j y, j < k → W11[j]? = some y → eqS s y = false)) (fun iv => 11 - (intOf iv).toNat)
  case atStart => exact ⟨0, Nat.zero_le _, rfl, fun j y hj => absurd hj (Nat.not_lt_zero _)⟩
  case round =>
    obtain ⟨k, hk, rfl, HK⟩ := hrel
    by_cases hlt : k < 11
    · have hx : W11[k]? = some (W11[k]'hlt) := List.getElem?_eq_getElem _
      obtain ⟨b, off, e1, hbl, c0⟩ := at_getT HA2.out k _ hx
      injection e1 with e1
      injection e1 with e1 e2
      subst e1 e2
      rw [Nat.zero_add] at c0
      generalize W11[k]'hlt = x at c0 hx
      have HX := Lib.hid hx
      clear hx
      cases hb : eqS s x with
      | false =>
        have g1 : (x.toList == s.toList) = false := by rw [← hb]; exact eqS_comm x s
        have HN := Lib.hid hb
        clear hb
        go_wp2
        go_round
        case rel => exact ⟨k + 1, by omega, by go_num, Lib.hid (fI_step HX.out HN.out HK.out)⟩
        case measure => simp [intOf]; omega
      | true =>
        have g1 : (x.toList == s.toList) = true := by rw [← hb]; exact eqS_comm x s
        have HE : Hid (wordB s = true) := Lib.hid (by
          unfold wordB
          rw [List.any_eq_true]
          exact ⟨x, List.mem_of_getElem? HX.out, hb⟩)
        clear hb
        go_wp2
        go_ret
        exact ⟨by rw [HE.out]; rfl, HB.out⟩
    · obtain rfl : k = 11 := by omega
      have HE : Hid (wordB s = false) := Lib.hid (by
        unfold wordB
        rw [List.any_eq_false]
        intro x hx
        obtain ⟨j, hj, rfl⟩ := List.mem_iff_getElem.1 hx
        rw [HK.out j _ hj (List.getElem?_eq_getElem hj)]
        decide)
      go_wp2
      go_ret
      exact ⟨by rw [HE.out]; rfl, HB.out⟩

/-! Bytes. -/
def letterB (c : UInt8) : Bool := decide (97 ≤ (c.toNat : Int) ∧ (c.toNat : Int) ≤ 122)
def digitB (c : UInt8) : Bool := decide (48 ≤ (c.toNat : Int) ∧ (c.toNat : Int) ≤ 57)
theorem letter_any (c : UInt8) (w : World) : Calls Try.prog 49 #[.int .u8 c.toNat] w fun e w' => e = .returned (.bool (letterB c)) ∧ w = w' := by
  unfold letterB
  by_cases h1 : 97 ≤ (c.toNat : Int)
  · by_cases h2 : (c.toNat : Int) ≤ 122
    · rw [decide_eq_true ⟨h1, h2⟩]
      go_enter Try.func49, Try.ntmps49
      go_wp2
      go_ret
      exact ⟨rfl, rfl⟩
    · rw [decide_eq_false (fun k => h2 k.2)]
      go_enter Try.func49, Try.ntmps49
      go_wp2
      go_ret
      exact ⟨rfl, rfl⟩
  · rw [decide_eq_false (fun k => h1 k.1)]
    go_enter Try.func49, Try.ntmps49
    go_wp2
    go_ret
    exact ⟨rfl, rfl⟩
theorem digit_any (c : UInt8) (w : World) : Calls Try.prog 51 #[.int .u8 c.toNat] w fun e w' => e = .returned (.bool (digitB c)) ∧ w = w' := by
  unfold digitB
  by_cases h1 : 48 ≤ (c.toNat : Int)
  · by_cases h2 : (c.toNat : Int) ≤ 57
    · rw [decide_eq_true ⟨h1, h2⟩]
      go_enter Try.func51, Try.ntmps51
      go_wp2
      go_ret
      exact ⟨rfl, rfl⟩
    · rw [decide_eq_false (fun k => h2 k.2)]
      go_enter Try.func51, Try.ntmps51
      go_wp2
      go_ret
      exact ⟨rfl, rfl⟩
  · rw [decide_eq_false (fun k => h1 k.1)]
    go_enter Try.func51, Try.ntmps51
    go_wp2
    go_ret
    exact ⟨rfl, rfl⟩
theorem let_in (c : UInt8) : inB LETB.data.toList c = letterB c := by
  have h : ∀ n : Fin 256, inB LETB.data.toList (UInt8.ofNat n.val) = letterB (UInt8.ofNat n.val) := by decide +kernel
  have := h ⟨c.toNat, c.toNat_lt⟩
  simpa using this
theorem aln_in (c : UInt8) : inB ALNB.data.toList c = (letterB c || digitB c) := by
  have h : ∀ n : Fin 256, inB ALNB.data.toList (UInt8.ofNat n.val) = (letterB (UInt8.ofNat n.val) || digitB (UInt8.ofNat n.val)) := by decide +kernel
  have := h ⟨c.toNat, c.toNat_lt⟩
  simpa using this
def alnB (c : UInt8) : Bool := letterB c || digitB c
def nameB (s : ByteArray) : Bool := decide (0 < s.size) && decide (s.size ≤ 12) && letterB (s.data.toList.headD 0) && s.data.toList.all alnB && !wordB s
end Go.Proofs.Ytjehhpppihmpgaa.Boo
