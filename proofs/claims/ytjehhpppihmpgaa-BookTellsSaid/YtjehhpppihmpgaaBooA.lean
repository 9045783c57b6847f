/- Contracts of the names: in, run, Index, Contains, Word, Name. -/
import Derived.Test.YtjehhpppihmpgaaMem
import Derived.WalkSpells
import Derived.WalkLawsBesides
import Derived.Outline
import Derived.Deep.QuietTactic
import Derived.BigQuiet
import Derived.Deep.RegionHeld3
import Derived.Deep.LoopGhost
import Derived.Deep.DeepCutAuto
import Derived.KernelRfl
import Derived.Lib.Hide
import Derived.Lib.Bytealg
import Derived.Lib.IndexAny
import Derived.IntWalk
import Derived.Deep.RegionLaw
import Derived.Deep.RegionWith
import Derived.StillTailTactics
namespace Go.Proofs.Ytjehhpppihmpgaa.Boo
open Go.RowKit Go.Proofs.Ytjehhpppihmpgaa.Mem

theorem cf58 (s : ByteArray) (c : UInt8) (w : World) : (callFunc 58 #[.string s, .int .u8 c.toNat]).run Try.prog w = .ok (.value (.int .i64 (Lib.indexByte s.data.toList c))) w := by
  rw [run_callFunc_extern Try.func58 (by kernel_rfl) (by kernel_rfl) (by kernel_rfl) (e := Extern.BytealgIndexByte.indexByte) (by kernel_rfl), Lib.run_indexByteString]
  simp [Result.andThen]
theorem ib3 (s : ByteArray) (c : UInt8) (w : World) : Calls Try.prog 56 #[.string s, .int .u8 c.toNat] w fun e w' => e = .returned (.int .i64 (Lib.indexByte s.data.toList c)) ∧ w = w' := by
  have hib := fun W => cf58 s c W
  go_enter Try.func56, Try.ntmps56
  go_wp2
  go_ret
  exact ⟨rfl, rfl⟩
theorem ib2 (s : ByteArray) (c : UInt8) (w : World) : Calls Try.prog 54 #[.string s, .int .u8 c.toNat] w fun e w' => e = .returned (.int .i64 (Lib.indexByte s.data.toList c)) ∧ w = w' := by
  go_enter Try.func54, Try.ntmps54
  go_wp2_with (go_at_call 56; refine (ib3 _ _ _).mono ?_; rintro e w' ⟨rfl, rfl⟩)
  go_ret
  exact ⟨rfl, rfl⟩
def inB (l : List UInt8) (c : UInt8) : Bool := l.contains c
theorem in_any (s : ByteArray) (c : UInt8) (w : World) : Calls Try.prog 45 #[.int .u8 c.toNat, .string s] w fun e w' => e = .returned (.bool (inB s.data.toList c)) ∧ w = w' := by
  have hb : inB s.data.toList c = decide (0 ≤ Lib.indexByte s.data.toList c) := Lib.contains_iff_indexByte _ _
  rw [hb]
  clear hb
  have HI := Lib.hid (fun W => ib2 s c W)
  generalize Lib.indexByte s.data.toList c = n at HI ⊢
  go_enter Try.func45, Try.ntmps45
  go_wp2_with (go_at_call 54; refine (HI.out _).mono ?_; rintro e w' ⟨rfl, rfl⟩)
  go_ret
  exact ⟨rfl, rfl⟩
/-! The first place. -/
def fI {α : Type} (p : α → Bool) (xs : List α) : Int := match xs.findIdx? p with
  | some i => i
  | none => -1
theorem fI_hit {α : Type} {p : α → Bool} {xs : List α} {k : Nat} {x : α} (hx : xs[k]? = some x) (hp : p x = true) (hb : ∀ j y, j < k → xs[j]? = some y → p y = false) : fI p xs = k := by
  have hk : k < xs.length := (List.getElem?_eq_some_iff.1 hx).1
  have : xs.findIdx? p = some k := by
    rw [List.findIdx?_eq_some_iff_getElem]
    refine ⟨hk, ?_, fun j hj => ?_⟩
    · rw [(List.getElem?_eq_some_iff.1 hx).2]; exact hp
    · have := hb j _ hj (List.getElem?_eq_getElem (by omega))
      rw [this]; decide
  unfold fI
  rw [this]
theorem fI_none {α : Type} {p : α → Bool} {xs : List α} (hb : ∀ j y, j < xs.length → xs[j]? = some y → p y = false) : fI p xs = -1 := by
  have : xs.findIdx? p = none := by
    rw [List.findIdx?_eq_none_iff]
    intro x hx
    obtain ⟨j, hj, rfl⟩ := List.mem_iff_getElem.1 hx
    exact hb j _ hj (List.getElem?_eq_getElem hj)
  unfold fI
  rw [this]
theorem fI_step {α : Type} {p : α → Bool} {xs : List α} {k : Nat} {x : α} (hx : xs[k]? = some x) (hp : p x = false) (hb : ∀ j y, j < k → xs[j]? = some y → p y = false) : ∀ j y, j < k + 1 → xs[j]? = some y → p y = false := fun j y hj hy => by
  by_cases h : j < k
  · exact hb j y h hy
  · obtain rfl : j = k := by omega
    rw [hx] at hy
    rw [← Option.some.inj hy]
    exact hp
theorem fI_bd {α : Type} (p : α → Bool) (xs : List α) : -1 ≤ fI p xs ∧ fI p xs < xs.length := by
  unfold fI
  cases h : xs.findIdx? p with
  | none => simp; omega
  | some i =>
    have := (List.findIdx?_eq_some_iff_getElem.1 h).1
    simp; omega

/-! run. -/
def notIn (l : List UInt8) (c : UInt8) : Bool := !inB l c
def runI (s t : ByteArray) : Int := if fI (notIn t.data.toList) s.data.toList = -1 then s.size else fI (notIn t.data.toList) s.data.toList
theorem byte_at (s : ByteArray) (k : Nat) (h : k < s.size) : s.data.toList[k]? = some s[k] := by
  obtain ⟨d⟩ := s
  have h' : k < d.size := h
  show d.toList[k]? = some d[k]
  simp [h']
theorem size_list (s : ByteArray) : s.data.toList.length = s.size := by
  show s.data.toList.length = s.data.size
  simp only [Array.length_toList]
theorem run_any (s t : ByteArray) (w : World) (hs : s.size ≤ 9223372036854775807) : Calls Try.prog 46 #[.string s, .string t] w fun e w' => e = .returned (.int .i64 (runI s t)) ∧ w = w' := by
  go_enter Try.func46, Try.ntmps46
  go_wp2
  go_loop [8] (fun iv => ∃ k : Nat, k ≤ s.size ∧ iv = .int .i64 k ∧ Hid (∀ j y, j < k → s.data.toList[j]? = some y → notIn t.data.toList y = false)) (fun iv => s.size - (intOf iv).toNat)
  case atStart => exact ⟨0, Nat.zero_le _, rfl, fun j y hj => absurd hj (Nat.not_lt_zero _)⟩
  case round =>
    obtain ⟨k, hk, rfl, HB⟩ := hrel
    by_cases hlt : k < s.size
    · have hx := byte_at s k hlt
      have HX := Lib.hid hx
      clear hx
      have HI := Lib.hid (fun W => in_any t s[k] W)
      cases hb : inB t.data.toList s[k] with
      | true =>
        rw [hb] at HI
        have hn : notIn t.data.toList s[k] = false := by unfold notIn; rw [hb]; rfl
        have HN := Lib.hid hn
        clear hb hn
        go_wp2_with (go_at_call 45; refine (HI.out _).mono ?_; rintro e w' ⟨rfl, rfl⟩)
        go_round
        case rel => exact ⟨k + 1, by omega, by go_num, Lib.hid (fI_step HX.out HN.out HB.out)⟩
        case measure => simp [intOf]; omega
      | false =>
        rw [hb] at HI
        have hn : notIn t.data.toList s[k] = true := by unfold notIn; rw [hb]; rfl
        have he : runI s t = k := by
          unfold runI
          rw [fI_hit HX.out hn HB.out, if_neg (by omega)]
        have HE := Lib.hid he
        clear hb hn he
        go_wp2_with (go_at_call 45; refine (HI.out _).mono ?_; rintro e w' ⟨rfl, rfl⟩)
        go_ret
        exact ⟨ret1 HE.out.symm, rfl⟩
    · obtain rfl : k = s.size := by omega
      have he : runI s t = s.size := by
        unfold runI
        rw [if_pos (fI_none (fun j y hj hy => HB.out j y (by rw [← size_list]; exact hj) hy))]
      have HE := Lib.hid he
      clear he
      go_wp2
      go_ret
      exact ⟨ret1 HE.out.symm, rfl⟩

/-! Index, Contains at []string. -/
def dT : En ByteArray := ⟨fun s => [.string s], 1, by omega, fun _ => rfl, fun x u hu => by simp at hu; rcases hu with rfl; rfl⟩
theorem at_getT {w : World} {A : Option Addr} {c : Nat} {xs : List ByteArray} (h : dT.At w A c xs) (k : Nat) (x : ByteArray) (hx : xs[k]? = some x) :
    ∃ b off, A = some ⟨b, off, none⟩ ∧ b < w.heap.size ∧ w.cell? ⟨b, off + k, none⟩ = some (.string x) := by
  obtain ⟨b, off, hA, hlt, hc⟩ := h.get k x hx
  have h0 := hc 0 (by decide)
  have e : k * dT.sz + 0 = k := by show k * 1 + 0 = k; omega
  rw [e] at h0
  exact ⟨b, off, hA, hlt, h0⟩
def eqS (a b : ByteArray) : Bool := a.toList == b.toList
theorem index_any (A : Option Addr) (c n : Nat) (xs : List ByteArray) (hn : xs.length = n) (v : ByteArray) (w : World) (h : dT.At w A c xs) : Calls Try.prog 57 #[.slice A n c, .string v] w fun e w' => e = .returned (.int .i64 (fI (eqS v) xs)) ∧ w = w' := by
  have H := Lib.hid h
  have hle : n ≤ c := by rw [← hn]; exact h.le
  have hmax := h.max
  have HN := Lib.hid hn
  clear h hn
  go_enter Try.func57, Try.ntmps57
  go_wp2
  go_loop [8] (fun iv => ∃ k : Nat, k ≤ n ∧ iv = .int .i64 k ∧ Hid (∀ j y, j < k → xs[j]? = some y → eqS v y = false)) (fun iv => n - (intOf iv).toNat)
  case atStart => exact ⟨0, Nat.zero_le _, rfl, fun j y hj => absurd hj (Nat.not_lt_zero _)⟩
  case round =>
    obtain ⟨k, hk, rfl, HB⟩ := hrel
    by_cases hlt : k < n
    · have hx : xs[k]? = some (xs[k]'(by have := HN.out; omega)) := List.getElem?_eq_getElem _
      obtain ⟨b, off, rfl, hbl, c0⟩ := at_getT H.out k _ hx
      generalize xs[k]'(by have := HN.out; omega) = x at c0 hx
      have HX := Lib.hid hx
      clear hx
      cases hb : eqS v x with
      | false =>
        have g1 : (v.toList == x.toList) = false := hb
        have HN2 := Lib.hid hb
        clear hb
        go_wp2
        go_round
        case rel => exact ⟨k + 1, by omega, by go_num, Lib.hid (fI_step HX.out HN2.out HB.out)⟩
        case measure => simp [intOf]; omega
      | true =>
        have g1 : (v.toList == x.toList) = true := hb
        have HE := Lib.hid (fI_hit HX.out hb HB.out)
        clear hb
        go_wp2
        go_ret
        exact ⟨ret1 HE.out.symm, rfl⟩
    · obtain rfl : k = n := by omega
      have HE := Lib.hid (fI_none (p := eqS v) (xs := xs) (fun j y hj hy => HB.out j y (by have := HN.out; omega) hy))
      go_wp2
      go_ret
      exact ⟨ret1 HE.out.symm, rfl⟩
theorem contains_any (A : Option Addr) (c n : Nat) (xs : List ByteArray) (hn : xs.length = n) (v : ByteArray) (w : World) (h : dT.At w A c xs) : Calls Try.prog 55 #[.slice A n c, .string v] w fun e w' => e = .returned (.bool (xs.any (eqS v))) ∧ w = w' := by
  have HI := Lib.hid (fun W hW => index_any A c n xs hn v W hW)
  have H := Lib.hid h
  have he : xs.any (eqS v) = decide (0 ≤ fI (eqS v) xs) := by
    unfold fI
    cases hf : xs.findIdx? (eqS v) with
    | none =>
      rw [List.findIdx?_eq_none_iff] at hf
      rw [Bool.eq_iff_iff]
      simp only [List.any_eq_true, decide_eq_true_eq]
      constructor
      · rintro ⟨x, hx, hp⟩
        rw [hf x hx] at hp
        cases hp
      · intro h0
        omega
    | some i =>
      obtain ⟨hi, hp, _⟩ := List.findIdx?_eq_some_iff_getElem.1 hf
      rw [Bool.eq_iff_iff]
      simp only [List.any_eq_true, decide_eq_true_eq]
      exact ⟨fun _ => by omega, fun _ => ⟨_, List.getElem_mem hi, hp⟩⟩
  rw [he]
  generalize fI (eqS v) xs = r at HI
  clear he h hn
  go_enter Try.func55, Try.ntmps55
  go_wp2_with (go_at_call 57; refine (HI.out _ H.out).mono ?_; rintro e w' ⟨rfl, rfl⟩)
  go_ret
  exact ⟨rfl, rfl⟩
end Go.Proofs.Ytjehhpppihmpgaa.Boo
