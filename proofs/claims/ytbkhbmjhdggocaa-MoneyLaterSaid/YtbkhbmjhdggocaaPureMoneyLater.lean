/- MoneyLater returns true at every input. No condition. -/
import Derived.Test.YtbkhbmjhdggocaaPMoneyLaterx1
namespace Go.Proofs.Ytbkhbmjhdggocaa.Pure
open Go.RowKit Go.Proofs.Ytbkhbmjhdggocaa.PMoneyLater Go.Proofs.YtbkhbmjhdggocaaW.PrintWords Go.Proofs.YtbkhbmjhdggocaaW.PrintLast Go.Proofs.YtbkhbmjhdggocaaW.PrintMore
namespace MoneyLaterAid

theorem w64 {x : Int} (h : -9223372036854775808 ≤ x) (h' : x ≤ 9223372036854775807) : wrap64 x = x := by unfold wrap64; omega

theorem bounds {a : Int} (h : (Lit.int .i64 a).wf = true) : -9223372036854775808 ≤ a ∧ a ≤ 9223372036854775807 := by
  simpa [Lit.wf, IntKind.min, IntKind.max, IntKind.signed, IntKind.bits] using h

theorem mul_in {a b A B : Int} (ha : -A ≤ a) (ha' : a ≤ A) (hb : -B ≤ b) (hb' : b ≤ B) : -(A * B) ≤ a * b ∧ a * b ≤ A * B := by
  have h : (a * b).natAbs ≤ (A * B).natAbs := by
    rw [Int.natAbs_mul, Int.natAbs_mul]
    exact Nat.mul_le_mul (by omega) (by omega)
  have h0 : 0 ≤ A * B := Int.mul_nonneg (by omega) (by omega)
  omega

def tell (q : Int) : Int × Int := if -1000000000000 ≤ q ∧ q ≤ 1000000000000 then (q, 0) else (0, 10)
theorem tell_in {q : Int} (h : -1000000000000 ≤ q) (h' : q ≤ 1000000000000) : tell q = (q, 0) := if_pos ⟨h, h'⟩

theorem within_eq (a b c : Int) : money_within_int.f a b c = some (decide (b ≤ a ∧ a ≤ c)) := by
  unfold money_within_int.f
  by_cases h : a ≥ b
  · rw [if_pos h]; congr 1; exact decide_eq_decide.2 ⟨fun k => ⟨h, k⟩, fun k => k.2⟩
  · rw [if_neg h]; congr 1; exact (decide_eq_false (fun k => h k.1)).symm

theorem right_eq (a : Int) : money_Right.f a = some (decide (-1000000000000 ≤ a ∧ a ≤ 1000000000000)) := by
  unfold money_Right.f; rw [within_eq]; rfl

theorem of_eq (q : Int) : money_of.f q true = some (tell q) := by
  unfold money_of.f tell
  rw [if_pos rfl, right_eq]
  simp only [Option.bind_some, decide_eq_true_eq]
  split <;> rfl

theorem tmod_p (p : Int) : (0 ≤ p → Int.tmod p 10000 = p % 10000) ∧ (p < 0 → Int.tmod p 10000 = -((-p) % 10000)) := by
  refine ⟨fun h => Int.tmod_eq_emod_of_nonneg h, fun h => ?_⟩
  have e : Int.tmod (-(-p)) 10000 = -Int.tmod (-p) 10000 := Int.neg_tmod _ _
  rw [Int.neg_neg, Int.tmod_eq_emod_of_nonneg (a := -p) (by omega)] at e
  exact e
theorem tdiv_p (p : Int) : (0 ≤ p → Int.tdiv p 10000 = p / 10000) ∧ (p < 0 → Int.tdiv p 10000 = -((-p) / 10000)) := by
  refine ⟨fun h => Int.tdiv_eq_ediv_of_nonneg h, fun h => ?_⟩
  have e : Int.tdiv (-(-p)) 10000 = -Int.tdiv (-p) 10000 := Int.neg_tdiv _ _
  rw [Int.neg_neg, Int.tdiv_eq_ediv_of_nonneg (a := -p) (by omega)] at e
  exact e

theorem part_eq (k : Nat) (a b : Int) (up : Bool) (ha : -1000000000000 ≤ a) (ha' : a ≤ 1000000000000) (hb : -100000 ≤ b) (hb' : b ≤ 100000) :
    money_Part.f (k + 1) a b up = some (tell (a * b / 10000 + if up = true ∧ 0 < a * b % 10000 then 1 else 0)) := by
  have hm := mul_in (A := 1000000000000) (B := 100000) ha ha' hb hb'
  have e1 : wrap64 (a * b) = a * b := w64 (by omega) (by omega)
  unfold money_Part.f
  rw [right_eq, decide_eq_true ⟨ha, ha'⟩]
  simp only [Option.bind_some, if_true]
  rw [within_eq, decide_eq_true ⟨hb, hb'⟩]
  simp only [Option.bind_some, Bool.not_true, money_Part.j0, Bool.false_eq_true, if_false]
  rw [e1]
  generalize a * b = p at *
  have m1 := tmod_p p
  have e2 : wrap64 (Int.tmod p 10000 + 10000) = Int.tmod p 10000 + 10000 := by unfold wrap64; omega
  have m2 := tmod_p (Int.tmod p 10000 + 10000)
  have e3 : Int.tmod (Int.tmod p 10000 + 10000) 10000 = p % 10000 := by omega
  have m3 := tdiv_p (p - p % 10000)
  have e4 : wrap64 (p - p % 10000) = p - p % 10000 := w64 (by omega) (by omega)
  have e5 : Int.tdiv (p - p % 10000) 10000 = p / 10000 := by omega
  have e6 : wrap64 (p / 10000) = p / 10000 := w64 (by omega) (by omega)
  have e7 : wrap64 (p / 10000 + 1) = p / 10000 + 1 := w64 (by omega) (by omega)
  rw [e2, e3, e4, e5, e6, e7, of_eq, of_eq]
  simp only [Option.bind_some, Prod.eta]
  cases up
  · simp
  · by_cases h : 0 < p % 10000
    · simp [h]
    · simp [h]

theorem part_down (k : Nat) (a b : Int) (ha : -1000000000000 ≤ a) (ha' : a ≤ 1000000000000) (hb : 0 ≤ b) (hb' : b ≤ 10000) :
    money_Part.f (k + 1) a b false = some (a * b / 10000, 0) := by
  have hm := mul_in (A := 1000000000000) (B := 10000) ha ha' (by omega) hb'
  rw [part_eq k a b false ha ha' (by omega) (by omega)]
  simp only [Bool.false_eq_true, false_and, if_false, Int.add_zero]
  rw [tell_in (by omega) (by omega)]

theorem part_up (k : Nat) (a b : Int) (ha : -1000000000000 ≤ a) (ha' : a ≤ 1000000000000) (hb : 0 ≤ b) (hb' : b ≤ 10000) :
    money_Part.f (k + 1) a b true = some (a * b / 10000 + if 0 < a * b % 10000 then 1 else 0, 0) := by
  have hm := mul_in (A := 1000000000000) (B := 10000) ha ha' (by omega) hb'
  rw [part_eq k a b true ha ha' (by omega) (by omega)]
  simp only [true_and]
  rw [tell_in (by split <;> omega) (by split <;> omega)]

theorem add_eq (a b : Int) (ha : -1000000000000 ≤ a) (ha' : a ≤ 1000000000000) (hb : -1000000000000 ≤ b) (hb' : b ≤ 1000000000000) : money_Add.f a b = some (tell (a + b)) := by
  unfold money_Add.f
  rw [right_eq, right_eq, decide_eq_true ⟨ha, ha'⟩, decide_eq_true ⟨hb, hb'⟩]
  simp only [Option.bind_some, if_true]
  rw [of_eq, w64 (by omega) (by omega)]; rfl

theorem add_out : money_Add.f 1000000000000 1 = some (0, 10) := by
  rw [add_eq _ _ (by omega) (by omega) (by omega) (by omega)]; rfl

def clampI (a low high : Int) : Int := if (if high < a then high else a) < low then low else (if high < a then high else a)
theorem clamp_eq (a low high : Int) : money_Clamp.f a low high = some (clampI a low high) := by
  unfold money_Clamp.f clampI mx mn
  congr 1
  split <;> split <;> split <;> omega

def laterI (t b : Int) : Int := if clampI t 0 1099511627776 + clampI b 0 1099511627776 < 1099511627776 then clampI t 0 1099511627776 + clampI b 0 1099511627776 else 1099511627776
theorem later_eq (t b : Int) : money_Later.f t b = some (laterI t b) := by
  unfold money_Later.f
  rw [clamp_eq, clamp_eq]
  simp only [Option.bind_some]
  rw [w64 (by unfold clampI; split <;> split <;> omega) (by unfold clampI; split <;> split <;> omega)]
  unfold laterI mn
  congr 1
  split <;> split <;> omega

theorem awake_eq (k : Nat) : hagglerlaw01_awake.f (k + 1) = some true := by
  unfold hagglerlaw01_awake.f
  rw [part_down k 999 250 (by omega) (by omega) (by omega) (by omega), part_up k 999 250 (by omega) (by omega) (by omega) (by omega), part_down k (-999) 250 (by omega) (by omega) (by omega) (by omega), add_out, clamp_eq, clamp_eq, later_eq, later_eq]
  decide

theorem pick_eq (a n : Int) (ha : (Lit.int .i64 a).wf = true) (hn : 0 < n) (hn' : n ≤ 9223372036854775807) : ∃ r, hagglerlaw01_pick.f a n = some r ∧ 0 ≤ r ∧ r < n := by
  have hb := bounds ha
  unfold hagglerlaw01_pick.f
  have ht : ∀ x : Int, 0 ≤ x → 0 ≤ Int.tmod x n ∧ Int.tmod x n < n := fun x hx => by
    rw [Int.tmod_eq_emod_of_nonneg hx]
    exact ⟨Int.emod_nonneg _ (by omega), Int.emod_lt_of_pos _ hn⟩
  by_cases h : a < 0
  · rw [if_pos h, if_neg (by omega), w64 (x := a + 1) (by omega) (by omega), w64 (by omega) (by omega)]
    exact ⟨_, rfl, ht _ (by omega)⟩
  · rw [if_neg h, if_neg (by omega)]
    exact ⟨_, rfl, ht _ (by omega)⟩

end MoneyLaterAid
open MoneyLaterAid

theorem MoneyLater : hagglerlaw01_MoneyLater.Pure := by
  intro a0 a1 a2 w0 w1 w2
  obtain ⟨t, ht, t0, t1⟩ := pick_eq a0 1099511627777 w0 (by omega) (by omega)
  obtain ⟨a, ha, a0', a1'⟩ := pick_eq a1 1099511627777 w1 (by omega) (by omega)
  obtain ⟨b, hb, b0, b1⟩ := pick_eq a2 1099511627777 w2 (by omega) (by omega)
  obtain ⟨c, hc, c0, c1⟩ := pick_eq a1 99 w1 (by omega) (by omega)
  obtain ⟨d, hd, d0, d1⟩ := pick_eq a2 99 w2 (by omega) (by omega)
  refine ⟨1, ?_⟩
  unfold hagglerlaw01_MoneyLater.f
  rw [awake_eq 0, ht, ha, hb, hc, hd]
  simp only [later_eq, Option.bind_some, if_true]
  have z : ∀ x : Int, 0 ≤ x → x ≤ 1099511627776 → clampI x 0 1099511627776 = x := fun x h h' => by unfold clampI; split <;> split <;> omega
  have zn : ∀ x : Int, x ≤ 0 → clampI x 0 1099511627776 = 0 := fun x h => by unfold clampI; split <;> split <;> omega
  have L : ∀ x y : Int, 0 ≤ x → x ≤ 1099511627776 → 0 ≤ y → y ≤ 1099511627776 → laterI x y = if x + y < 1099511627776 then x + y else 1099511627776 := fun x y h1 h2 h3 h4 => by unfold laterI; rw [z x h1 h2, z y h3 h4]
  have Ln : ∀ x y : Int, 0 ≤ x → x ≤ 1099511627776 → y ≤ 0 → laterI x y = x := fun x y h1 h2 h3 => by unfold laterI; rw [z x h1 h2, zn y h3]; split <;> omega
  have Lm : ∀ x y : Int, x ≤ 0 → 0 ≤ y → y ≤ 1099511627776 → laterI x y = y := fun x y h1 h2 h3 => by unfold laterI; rw [zn x h1, z y h2 h3]; split <;> omega
  have B : ∀ x y : Int, 0 ≤ x → x ≤ 1099511627776 → 0 ≤ y → y ≤ 1099511627776 → x ≤ laterI x y ∧ laterI x y ≤ 1099511627776 := fun x y h1 h2 h3 h4 => by rw [L x y h1 h2 h3 h4]; split <;> omega
  have k1 := B t a t0 (by omega) a0' (by omega)
  have k2 := B t b t0 (by omega) b0 (by omega)
  rw [if_pos k1.1, if_pos k1.2]
  have k3 : laterI (laterI t a) b = laterI (laterI t b) a := by
    rw [L (laterI t a) b (by omega) k1.2 b0 (by omega), L (laterI t b) a (by omega) k2.2 a0' (by omega), L t a t0 (by omega) a0' (by omega), L t b t0 (by omega) b0 (by omega)]
    split <;> split <;> split <;> split <;> omega
  rw [if_pos k3, Ln t 0 t0 (by omega) (by omega), if_pos rfl, w64 (x := -1 - c) (by omega) (by omega), Ln t (-1 - c) t0 (by omega) (by omega), if_pos rfl, w64 (x := -1 - d) (by omega) (by omega), Lm (-1 - d) a (by omega) a0' (by omega), if_pos rfl, w64 (x := t + a) (by omega) (by omega)]
  rw [L t a t0 (by omega) a0' (by omega)]
  by_cases h : t + a < 1099511627776
  · rw [if_pos h, if_pos rfl]
  · rw [if_neg h]
    by_cases h' : 1099511627776 = t + a
    · rw [if_pos h']
    · rw [if_neg h']; rfl

end Go.Proofs.Ytbkhbmjhdggocaa.Pure
