/- MoneyGrows returns true at every input. No condition. -/
import Derived.Test.YtbkhbmjhdggocaaPMoneyGrowsx1
namespace Go.Proofs.Ytbkhbmjhdggocaa.Pure
open Go.RowKit Go.Proofs.Ytbkhbmjhdggocaa.PMoneyGrows Go.Proofs.YtbkhbmjhdggocaaW.PrintWords Go.Proofs.YtbkhbmjhdggocaaW.PrintLast Go.Proofs.YtbkhbmjhdggocaaW.PrintMore
namespace MoneyGrowsAid

theorem w64 {x : Int} (h : -9223372036854775808 ≤ x) (h' : x ≤ 9223372036854775807) : wrap64 x = x := by unfold wrap64; omega

theorem bounds {a : Int} (h : (Lit.int .i64 a).wf = true) : -9223372036854775808 ≤ a ∧ a ≤ 9223372036854775807 := by
  simpa [Lit.wf, IntKind.min, IntKind.max, IntKind.signed, IntKind.bits] using h

theorem mul_in {a b A B : Int} (ha : -A ≤ a) (ha' : a ≤ A) (hb : -B ≤ b) (hb' : b ≤ B) : -(A * B) ≤ a * b ∧ a * b ≤ A * B := by
  have h : (a * b).natAbs ≤ (A * B).natAbs := by
    rw [Int.natAbs_mul, Int.natAbs_mul]
    exact Nat.mul_le_mul (by omega) (by omega)
  have h0 : 0 ≤ A * B := Int.mul_nonneg (by omega) (by omega)
  omega

def tell (q : Int) : Int × Int := if -1000000000000 ≤ q ∧ q ≤ 1000000000000 then (q, 0) else (0, 10)
theorem tell_in {q : Int} (h : -1000000000000 ≤ q) (h' : q ≤ 1000000000000) : tell q = (q, 0) := if_pos ⟨h, h'⟩

theorem within_eq (a b c : Int) : money_within_int.f a b c = some (decide (b ≤ a ∧ a ≤ c)) := by
  unfold money_within_int.f
  by_cases h : a ≥ b
  · rw [if_pos h]; congr 1; exact decide_eq_decide.2 ⟨fun k => ⟨h, k⟩, fun k => k.2⟩
  · rw [if_neg h]; congr 1; exact (decide_eq_false (fun k => h k.1)).symm

theorem right_eq (a : Int) : money_Right.f a = some (decide (-1000000000000 ≤ a ∧ a ≤ 1000000000000)) := by
  unfold money_Right.f; rw [within_eq]; rfl

theorem of_eq (q : Int) : money_of.f q true = some (tell q) := by
  unfold money_of.f tell
  rw [if_pos rfl, right_eq]
  simp only [Option.bind_some, decide_eq_true_eq]
  split <;> rfl

theorem tmod_p (p : Int) : (0 ≤ p → Int.tmod p 10000 = p % 10000) ∧ (p < 0 → Int.tmod p 10000 = -((-p) % 10000)) := by
  refine ⟨fun h => Int.tmod_eq_emod_of_nonneg h, fun h => ?_⟩
  have e : Int.tmod (-(-p)) 10000 = -Int.tmod (-p) 10000 := Int.neg_tmod _ _
  rw [Int.neg_neg, Int.tmod_eq_emod_of_nonneg (a := -p) (by omega)] at e
  exact e
theorem tdiv_p (p : Int) : (0 ≤ p → Int.tdiv p 10000 = p / 10000) ∧ (p < 0 → Int.tdiv p 10000 = -((-p) / 10000)) := by
  refine ⟨fun h => Int.tdiv_eq_ediv_of_nonneg h, fun h => ?_⟩
  have e : Int.tdiv (-(-p)) 10000 = -Int.tdiv (-p) 10000 := Int.neg_tdiv _ _
  rw [Int.neg_neg, Int.tdiv_eq_ediv_of_nonneg (a := -p) (by omega)] at e
  exact e

theorem part_eq (k : Nat) (a b : Int) (up : Bool) (ha : -1000000000000 ≤ a) (ha' : a ≤ 1000000000000) (hb : -100000 ≤ b) (hb' : b ≤ 100000) :
    money_Part.f (k + 1) a b up = some (tell (a * b / 10000 + if up = true ∧ 0 < a * b % 10000 then 1 else 0)) := by
  have hm := mul_in (A := 1000000000000) (B := 100000) ha ha' hb hb'
  have e1 : wrap64 (a * b) = a * b := w64 (by omega) (by omega)
  unfold money_Part.f
  rw [right_eq, decide_eq_true ⟨ha, ha'⟩]
  simp only [Option.bind_some, if_true]
  rw [within_eq, decide_eq_true ⟨hb, hb'⟩]
  simp only [Option.bind_some, Bool.not_true, money_Part.j0, Bool.false_eq_true, if_false]
  rw [e1]
  generalize a * b = p at *
  have m1 := tmod_p p
  have e2 : wrap64 (Int.tmod p 10000 + 10000) = Int.tmod p 10000 + 10000 := by unfold wrap64; omega
  have m2 := tmod_p (Int.tmod p 10000 + 10000)
  have e3 : Int.tmod (Int.tmod p 10000 + 10000) 10000 = p % 10000 := by omega
  have m3 := tdiv_p (p - p % 10000)
  have e4 : wrap64 (p - p % 10000) = p - p % 10000 := w64 (by omega) (by omega)
  have e5 : Int.tdiv (p - p % 10000) 10000 = p / 10000 := by omega
  have e6 : wrap64 (p / 10000) = p / 10000 := w64 (by omega) (by omega)
  have e7 : wrap64 (p / 10000 + 1) = p / 10000 + 1 := w64 (by omega) (by omega)
  rw [e2, e3, e4, e5, e6, e7, of_eq, of_eq]
  simp only [Option.bind_some, Prod.eta]
  cases up
  · simp
  · by_cases h : 0 < p % 10000
    · simp [h]
    · simp [h]

theorem part_down (k : Nat) (a b : Int) (ha : -1000000000000 ≤ a) (ha' : a ≤ 1000000000000) (hb : 0 ≤ b) (hb' : b ≤ 10000) :
    money_Part.f (k + 1) a b false = some (a * b / 10000, 0) := by
  have hm := mul_in (A := 1000000000000) (B := 10000) ha ha' (by omega) hb'
  rw [part_eq k a b false ha ha' (by omega) (by omega)]
  simp only [Bool.false_eq_true, false_and, if_false, Int.add_zero]
  rw [tell_in (by omega) (by omega)]

theorem part_up (k : Nat) (a b : Int) (ha : -1000000000000 ≤ a) (ha' : a ≤ 1000000000000) (hb : 0 ≤ b) (hb' : b ≤ 10000) :
    money_Part.f (k + 1) a b true = some (a * b / 10000 + if 0 < a * b % 10000 then 1 else 0, 0) := by
  have hm := mul_in (A := 1000000000000) (B := 10000) ha ha' (by omega) hb'
  rw [part_eq k a b true ha ha' (by omega) (by omega)]
  simp only [true_and]
  rw [tell_in (by split <;> omega) (by split <;> omega)]

theorem add_eq (a b : Int) (ha : -1000000000000 ≤ a) (ha' : a ≤ 1000000000000) (hb : -1000000000000 ≤ b) (hb' : b ≤ 1000000000000) : money_Add.f a b = some (tell (a + b)) := by
  unfold money_Add.f
  rw [right_eq, right_eq, decide_eq_true ⟨ha, ha'⟩, decide_eq_true ⟨hb, hb'⟩]
  simp only [Option.bind_some, if_true]
  rw [of_eq, w64 (by omega) (by omega)]; rfl

theorem add_out : money_Add.f 1000000000000 1 = some (0, 10) := by
  rw [add_eq _ _ (by omega) (by omega) (by omega) (by omega)]; rfl

def clampI (a low high : Int) : Int := if (if high < a then high else a) < low then low else (if high < a then high else a)
theorem clamp_eq (a low high : Int) : money_Clamp.f a low high = some (clampI a low high) := by
  unfold money_Clamp.f clampI mx mn
  congr 1
  split <;> split <;> split <;> omega

def laterI (t b : Int) : Int := if clampI t 0 1099511627776 + clampI b 0 1099511627776 < 1099511627776 then clampI t 0 1099511627776 + clampI b 0 1099511627776 else 1099511627776
theorem later_eq (t b : Int) : money_Later.f t b = some (laterI t b) := by
  unfold money_Later.f
  rw [clamp_eq, clamp_eq]
  simp only [Option.bind_some]
  rw [w64 (by unfold clampI; split <;> split <;> omega) (by unfold clampI; split <;> split <;> omega)]
  unfold laterI mn
  congr 1
  split <;> split <;> omega

theorem awake_eq (k : Nat) : hagglerlaw01_awake.f (k + 1) = some true := by
  unfold hagglerlaw01_awake.f
  rw [part_down k 999 250 (by omega) (by omega) (by omega) (by omega), part_up k 999 250 (by omega) (by omega) (by omega) (by omega), part_down k (-999) 250 (by omega) (by omega) (by omega) (by omega), add_out, clamp_eq, clamp_eq, later_eq, later_eq]
  decide

theorem pick_eq (a n : Int) (ha : (Lit.int .i64 a).wf = true) (hn : 0 < n) (hn' : n ≤ 9223372036854775807) : ∃ r, hagglerlaw01_pick.f a n = some r ∧ 0 ≤ r ∧ r < n := by
  have hb := bounds ha
  unfold hagglerlaw01_pick.f
  have ht : ∀ x : Int, 0 ≤ x → 0 ≤ Int.tmod x n ∧ Int.tmod x n < n := fun x hx => by
    rw [Int.tmod_eq_emod_of_nonneg hx]
    exact ⟨Int.emod_nonneg _ (by omega), Int.emod_lt_of_pos _ hn⟩
  by_cases h : a < 0
  · rw [if_pos h, if_neg (by omega), w64 (x := a + 1) (by omega) (by omega), w64 (by omega) (by omega)]
    exact ⟨_, rfl, ht _ (by omega)⟩
  · rw [if_neg h, if_neg (by omega)]
    exact ⟨_, rfl, ht _ (by omega)⟩

end MoneyGrowsAid
open MoneyGrowsAid

theorem MoneyGrows : hagglerlaw01_MoneyGrows.Pure := by
  intro a0 a1 a2 w0 w1 w2
  obtain ⟨x, hx, x0, x1⟩ := pick_eq a0 1000000000 w0 (by omega) (by omega)
  obtain ⟨p, hp, p0, p1⟩ := pick_eq a1 10001 w1 (by omega) (by omega)
  obtain ⟨m, hm, m0, m1⟩ := pick_eq a2 (10001 - p) w2 (by omega) (by omega)
  refine ⟨1, ?_⟩
  unfold hagglerlaw01_MoneyGrows.f
  rw [awake_eq 0, hx, hp]
  simp only [Option.bind_some]
  rw [w64 (x := 10001 - p) (by omega) (by omega), hm]
  simp only [Option.bind_some]
  obtain ⟨q, hq⟩ : ∃ q, q = p + m := ⟨_, rfl⟩
  rw [w64 (x := p + m) (by omega) (by omega), ← hq, w64 (x := x + 1) (by omega) (by omega)]
  have P0 : 0 ≤ x * p := Int.mul_nonneg x0 p0
  have P1 : x * p ≤ x * q := Int.mul_le_mul_of_nonneg_left (by omega) x0
  have P2 : x * q ≤ x * 10000 := Int.mul_le_mul_of_nonneg_left (by omega) x0
  have P3 : (x + 1) * p = x * p + p := by rw [Int.add_mul, Int.one_mul]
  obtain ⟨s, hs⟩ : ∃ s, s = x * p / 10000 := ⟨_, rfl⟩
  obtain ⟨t, ht⟩ : ∃ t, t = x * q / 10000 := ⟨_, rfl⟩
  have s0 : 0 ≤ s := by omega
  have s1 : s ≤ x := by omega
  have t0 : 0 ≤ t := by omega
  have t1 : t ≤ x := by omega
  rw [part_down 0 x p (by omega) (by omega) (by omega) (by omega), part_down 0 x q (by omega) (by omega) (by omega) (by omega), part_down 0 (x + 1) p (by omega) (by omega) (by omega) (by omega)]
  simp only [Option.bind_some]
  rw [← hs, ← ht, part_down 0 s q (by omega) (by omega) (by omega) (by omega), part_down 0 t p (by omega) (by omega) (by omega) (by omega)]
  simp only [Option.bind_some, if_true]
  have Q1 : s * q ≤ s * 10000 := Int.mul_le_mul_of_nonneg_left (by omega) s0
  have Q2 : t * p ≤ x * p := Int.mul_le_mul_of_nonneg_right t1 p0
  have Q3 : s * q ≤ x * q := Int.mul_le_mul_of_nonneg_right s1 (by omega)
  rw [P3, if_pos (by omega), if_pos (by omega), if_pos (by omega), w64 (x := s + 1) (by omega) (by omega), if_pos (by omega), if_pos (by omega), if_pos (by omega), decide_eq_true (by omega)]

end Go.Proofs.Ytbkhbmjhdggocaa.Pure
