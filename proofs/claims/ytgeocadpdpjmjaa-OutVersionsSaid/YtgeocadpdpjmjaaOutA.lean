/- Contracts of the outbox's inner functions: Clone, Clamp, tick, Later, due, tried, and 'with' over any two function values. -/
import Derived.Test.YtgeocadpdpjmjaaMem
import Derived.WalkSpells
import Derived.WalkLawsBesides
import Derived.Outline
import Derived.Deep.QuietTactic
import Derived.BigQuiet
import Derived.Deep.RegionHeld3
import Derived.Deep.LoopGhost
import Derived.Deep.DeepCutAuto
import Derived.KernelRfl
import Derived.Lib.Hide
import Derived.IntWalk
import Derived.Deep.RegionLaw
import Derived.Deep.RegionWith
namespace Go.Proofs.Ytgeocadpdpjmjaa.Out
open Go.RowKit Go.Proofs.Ytgeocadpdpjmjaa.Mem

structure Outs where
  v : Int
  p : Int
  t : Int
  n : Int
  s : Int
deriving instance DecidableEq for Outs
structure Mail where
  s : Int
  v : Int
  p : Int
deriving instance DecidableEq for Mail
def dO : En Outs := ⟨fun m => [.int .i64 m.v, .int .i64 m.p, .int .i64 m.t, .int .i64 m.n, .int .i64 m.s], 5, by omega, fun _ => rfl, fun x u hu => by simp at hu; rcases hu with rfl | rfl | rfl | rfl | rfl <;> rfl⟩
def Outs.val (m : Outs) : Value := .agg #[.int .i64 m.v, .int .i64 m.p, .int .i64 m.t, .int .i64 m.n, .int .i64 m.s]
def Made {α : Type} (d : En α) (e : TypeId) (w : World) (xs : List α) (r : Ending) (w' : World) : Prop := ∃ A c, r = .returned (.slice A xs.length c) ∧ d.Own e w' w.heap.size A c xs ∧ Below w.heap.size w w'

theorem info35 : (Try.prog.info? 35).map (fun i => (i.zero, i.size, i.bytes)) = some (some (.agg #[.int .i64 0, .int .i64 0, .int .i64 0, .int .i64 0, .int .i64 0]), 5, 40) := by kernel_rfl

theorem cloneO_nil (w : World) : Calls Try.prog 39 #[.slice none 0 0] w (Made dO 35 w []) := by
  have heq := fun W a n c => Lib.run_eql_slice_nil (P := Try.prog) W 24 35 a n c 0 0 Try.underlying24
  go_enter Try.func39, Try.ntmps39
  go_wp2
  go_ret
  exact ⟨none, 0, rfl, En.Own.none_ _ _ _, Below.refl _ _⟩
theorem cloneO_some (a : Addr) (c : Nat) (xs : List Outs) (w : World) (h : dO.At w (some a) c xs) (hb : xs.length * 40 ≤ 140737488355328) : Calls Try.prog 39 #[.slice (some a) xs.length c] w (Made dO 35 w xs) := by
  obtain ⟨i0, hi, hz0, hz1, hz2⟩ := info_parts info35
  have heq := fun W a n c => Lib.run_eql_slice_nil (P := Try.prog) W 24 35 a n c 0 0 Try.underlying24
  have H := Lib.hid h
  clear h
  have hbel : Hid (Below w.heap.size w (w.alloc (.cells #[] 35))) := (Below.refl _ _).alloc (Nat.le_refl _) _
  go_enter Try.func39, Try.ntmps39
  go_wp2_with (at_builtin; refine wpList_app dO _ rfl _ _ 24 rfl w.heap.size 35 i0 _ 40 Try.underlying24 hi hz0 hz1 hz2 rfl (some ⟨w.heap.size, 0, none⟩) 0 0 [] rfl rfl ?own (some a) c xs.length xs rfl rfl ?at_ ?m1 ?m2 ?m3 ?_)
  case own => exact En.Own.lit dO w w.heap.size 35 #[] [] (Nat.le_refl _) (Nat.zero_le _) rfl
  case at_ => exact H.out.below hbel.out
  case m1 => simp only [List.length_nil]; omega
  case m2 => simp only [List.length_nil]; omega
  case m3 => simp
  intro A' c' w' hown hg hat
  have HO := Lib.hid hown
  have HG := Lib.hid hg
  clear hown hg hat
  go_wp2
  go_ret
  exact ⟨A', c', rfl, HO.out, hbel.out.grown HG.out (by simp) (fun k hk => by simp [Value.ownBlock] at hk; omega)⟩
theorem cloneO_any (A : Option Addr) (c : Nat) (xs : List Outs) (w : World) (h : dO.At w A c xs) (hb : xs.length * 40 ≤ 140737488355328) : Calls Try.prog 39 #[.slice A xs.length c] w (Made dO 35 w xs) := by
  cases A with
  | none =>
    have hc := h.nil rfl
    subst hc
    have hx : xs = [] := List.eq_nil_of_length_eq_zero (Nat.le_zero.1 h.le)
    subst hx
    exact cloneO_nil w
  | some a => exact cloneO_some a c xs w h hb

/-! Numbers. -/
def clampI (x a b : Int) : Int := if (if b < x then b else x) < a then a else (if b < x then b else x)
def tickI (x : Int) : Int := if x < 0 then 0 else if 1099511627776 < x then 1099511627776 else x
theorem tickI_bd (x : Int) : 0 ≤ tickI x ∧ tickI x ≤ 1099511627776 := by unfold tickI; split <;> (try split) <;> omega
def laterI (t b : Int) : Int := if 1099511627776 < tickI t + tickI b then 1099511627776 else tickI t + tickI b

theorem at_getO {w : World} {A : Option Addr} {c : Nat} {xs : List Outs} (h : dO.At w A c xs) (k : Nat) (x : Outs) (hx : xs[k]? = some x) :
    ∃ b off, A = some ⟨b, off, none⟩ ∧ b < w.heap.size ∧ w.cell? ⟨b, off + k * 5, none⟩ = some (.int .i64 x.v) ∧ w.cell? ⟨b, off + k * 5 + 1, none⟩ = some (.int .i64 x.p) ∧ w.cell? ⟨b, off + k * 5 + 2, none⟩ = some (.int .i64 x.t) ∧ w.cell? ⟨b, off + k * 5 + 3, none⟩ = some (.int .i64 x.n) ∧ w.cell? ⟨b, off + k * 5 + 4, none⟩ = some (.int .i64 x.s) := by
  obtain ⟨b, off, hA, hlt, hc⟩ := h.get k x hx
  exact ⟨b, off, hA, hlt, hc 0 (by decide), hc 1 (by decide), hc 2 (by decide), hc 3 (by decide), hc 4 (by decide)⟩
theorem own_getO {w : World} {base : Nat} {A : Option Addr} {c : Nat} {xs : List Outs} (h : dO.Own 35 w base A c xs) (k : Nat) (x : Outs) (hx : xs[k]? = some x) :
    ∃ g, A = some ⟨g, 0, none⟩ ∧ base ≤ g ∧ g < w.heap.size ∧ w.cell? ⟨g, k * 5, none⟩ = some (.int .i64 x.v) ∧ w.cell? ⟨g, k * 5 + 1, none⟩ = some (.int .i64 x.p) ∧ w.cell? ⟨g, k * 5 + 2, none⟩ = some (.int .i64 x.t) ∧ w.cell? ⟨g, k * 5 + 3, none⟩ = some (.int .i64 x.n) ∧ w.cell? ⟨g, k * 5 + 4, none⟩ = some (.int .i64 x.s) := by
  obtain ⟨g, off, rfl, hlt, h0, h1, h2, h3, h4⟩ := at_getO h.at_ k x hx
  obtain ⟨rfl, hge, _⟩ := own_at0 h
  rw [Nat.zero_add] at h0 h1 h2 h3 h4
  exact ⟨g, rfl, hge, hlt, h0, h1, h2, h3, h4⟩

theorem tick41 (x : Int) (w : World) : Calls Try.prog 41 #[.int .i64 x, .int .i64 0, .int .i64 1099511627776] w fun e w' => e = .returned (.int .i64 (tickI x)) ∧ w = w' := by
  by_cases h : x < 0
  · rw [show tickI x = 0 from if_pos h]
    go_enter Try.func41, Try.ntmps41
    go_wp2
    go_ret
    exact ⟨rfl, rfl⟩
  · by_cases h' : 1099511627776 < x
    · rw [show tickI x = 1099511627776 by unfold tickI; rw [if_neg h, if_pos h']]
      go_enter Try.func41, Try.ntmps41
      go_wp2
      go_ret
      exact ⟨rfl, rfl⟩
    · rw [show tickI x = x by unfold tickI; rw [if_neg h, if_neg h']]
      by_cases h0 : x = 0
      · subst h0
        go_enter Try.func41, Try.ntmps41
        go_wp2
        go_ret
        exact ⟨rfl, rfl⟩
      · have h1 : 0 < x := by omega
        go_enter Try.func41, Try.ntmps41
        go_wp2
        go_ret
        exact ⟨rfl, rfl⟩
theorem tick_any (x : Int) (w : World) : Calls Try.prog 30 #[.int .i64 x] w fun e w' => e = .returned (.int .i64 (tickI x)) ∧ w = w' := by
  go_enter Try.func30, Try.ntmps30
  go_wp2_with (go_at_call 41; refine (tick41 _ _).mono ?_; rintro e w' ⟨rfl, rfl⟩)
  go_ret
  exact ⟨rfl, rfl⟩
theorem later_any (a b : Int) (w : World) : Calls Try.prog 40 #[.int .i64 a, .int .i64 b] w fun e w' => e = .returned (.int .i64 (laterI a b)) ∧ w = w' := by
  have ha := tickI_bd a
  have hb := tickI_bd b
  go_enter Try.func40, Try.ntmps40
  go_wp2_with (first | (go_at_call 41; refine (tick41 _ _).mono ?_; rintro e w' ⟨rfl, rfl⟩))
  all_goals go_ret
  all_goals refine ⟨ret1 ?_, rfl⟩
  all_goals show _ = laterI a b
  all_goals unfold laterI
  · rw [if_pos (by assumption)]
  · rw [if_neg (by omega)]

/-! 'with', over any two function values. -/
def MadeB (w : World) (xs : List Outs) (b : Bool) (r : Ending) (w' : World) : Prop := ∃ A c, r = .returned (.tuple #[.slice A xs.length c, .bool b]) ∧ dO.Own 35 w' w.heap.size A c xs ∧ Below w.heap.size w w'

theorem with_out (A : Option Addr) (c : Nat) (xs : List Outs) (i : Int) (f2 f3 : Nat) (K2 K3 : Array Value) (w : World) (h : dO.At w A c xs) (hb : xs.length * 40 ≤ 140737488355328) (ho : i < 0 ∨ (0 ≤ i ∧ (xs.length : Int) ≤ i)) :
    Calls Try.prog 24 #[.slice A xs.length c, .int .i64 i, .func (.func f2) #[] K2, .func (.func f3) #[] K3] w (MadeB w xs false) := by
  have H := Lib.hid h
  clear h
  rcases ho with hneg | ⟨hneg, hbig⟩
  · go_enter Try.func24, Try.ntmps24
    go_wp2_with (go_at_call 39; refine (cloneO_any _ _ _ _ H.out hb).mono ?_; rintro e w1 ⟨A1, c1, rfl, hown, hbel⟩; have HO := Lib.hid hown; have HB := Lib.hid hbel; clear hown hbel)
    go_ret2
    exact ⟨A1, c1, rfl, HO.out, HB.out⟩
  · go_enter Try.func24, Try.ntmps24
    go_wp2_with (go_at_call 39; refine (cloneO_any _ _ _ _ H.out hb).mono ?_; rintro e w1 ⟨A1, c1, rfl, hown, hbel⟩; have HO := Lib.hid hown; have HB := Lib.hid hbel; clear hown hbel)
    go_ret2
    exact ⟨A1, c1, rfl, HO.out, HB.out⟩

def Ent (f : Nat) : Prop := ∀ args W, (callFunc f args).run Try.prog W = .ok (.enter f args) W
theorem with_no (A : Option Addr) (c k : Nat) (xs : List Outs) (x : Outs) (f2 f3 : Nat) (K2 K3 : Array Value) (w : World) (e2 : Ent f2) (h : dO.At w A c xs) (hb : xs.length * 40 ≤ 140737488355328) (hx : xs[k]? = some x)
    (hm : ∀ W, Below w.heap.size w W → Calls Try.prog f2 (#[x.val] ++ K2) W fun e w' => e = .returned (.bool false) ∧ Below W.heap.size W w') :
    Calls Try.prog 24 #[.slice A xs.length c, .int .i64 k, .func (.func f2) #[] K2, .func (.func f3) #[] K3] w (MadeB w xs false) := by
  have hk : k < xs.length := (List.getElem?_eq_some_iff.1 hx).1
  obtain ⟨b, off, rfl, hbl, c0, c1, c2, c3, c4⟩ := at_getO h k x hx
  have H := Lib.hid h
  have HX := Lib.hid hx
  have HM := Lib.hid hm
  clear h hx hm
  have he2 : ∀ args W, (callFunc f2 args).run Try.prog W = .ok (.enter f2 args) W := e2
  clear e2
  have g1 : decide ((k : Int) < 0) = false := decide_eq_false (by omega)
  have g2 : decide (xs.length ≤ k) = false := decide_eq_false (by omega)
  go_enter Try.func24, Try.ntmps24
  go_wp2_with (go_at_call 39; refine (cloneO_any _ _ _ _ H.out hb).mono ?_; rintro e w1 ⟨A1, c1', rfl, hown, hbel⟩; obtain ⟨hc1, hf1, hz1⟩ := olds hbel; have HO := Lib.hid hown; have HB := Lib.hid hbel; clear hown hbel)
  refine (HM.out _ HB.out).mono ?_
  rintro e w2 ⟨rfl, hbel⟩
  have HB2 := Lib.hid hbel
  clear hbel
  go_wp2_with fail
  go_ret2
  exact ⟨A1, c1', rfl, HO.out.below HB2.out, below_step HB.out HB2.out⟩

theorem dO_set (xs : List Outs) (k : Nat) (hk : k < xs.length) (x : Outs) : (((((dO.cs xs).set (k * 5) (.int .i64 x.v)).set (k * 5 + 1) (.int .i64 x.p)).set (k * 5 + 2) (.int .i64 x.t)).set (k * 5 + 3) (.int .i64 x.n)).set (k * 5 + 4) (.int .i64 x.s) = dO.cs (xs.set k x) := by
  refine dO.cs_ext _ _ (by simp only [List.length_set, dO.cs_length]) fun q y hy j hj => ?_
  have hj2 : j < 5 := hj
  have hl : (dO.cs xs).length = xs.length * 5 := dO.cs_length xs
  have hsz : dO.sz = 5 := rfl
  rw [hsz]
  simp only [List.getElem?_set, List.length_set, hl]
  by_cases hq : k = q
  · subst hq
    have e : y = x := by
      rw [List.getElem?_set_self hk] at hy
      exact (Option.some.inj hy).symm
    subst e
    match j, hj2 with
    | 0, _ => rw [if_neg (by omega), if_neg (by omega), if_neg (by omega), if_neg (by omega), if_pos (by omega), if_pos (by omega)]; rfl
    | 1, _ => rw [if_neg (by omega), if_neg (by omega), if_neg (by omega), if_pos rfl, if_pos (by omega)]; rfl
    | 2, _ => rw [if_neg (by omega), if_neg (by omega), if_pos rfl, if_pos (by omega)]; rfl
    | 3, _ => rw [if_neg (by omega), if_pos rfl, if_pos (by omega)]; rfl
    | 4, _ => rw [if_pos rfl, if_pos (by omega)]; rfl
  · rw [List.getElem?_set_ne hq] at hy
    rw [if_neg (by omega), if_neg (by omega), if_neg (by omega), if_neg (by omega), if_neg (by omega)]
    exact dO.cs_get xs q y hy j hj
def setO (w : World) (g k : Nat) (x : Outs) : World := ((((w.setCell ⟨g, k * 5, none⟩ (.int .i64 x.v)).setCell ⟨g, k * 5 + 1, none⟩ (.int .i64 x.p)).setCell ⟨g, k * 5 + 2, none⟩ (.int .i64 x.t)).setCell ⟨g, k * 5 + 3, none⟩ (.int .i64 x.n)).setCell ⟨g, k * 5 + 4, none⟩ (.int .i64 x.s)
theorem own_setO {w : World} {base g c : Nat} {xs : List Outs} (h : dO.Own 35 w base (some ⟨g, 0, none⟩) c xs) (k : Nat) (hk : k < xs.length) (x : Outs) :
    dO.Own 35 (setO w g k x) base (some ⟨g, 0, none⟩) c (xs.set k x) := by
  have h1 := (World.ownsRow.stored h (k * 5) (.int .i64 x.v)).1
  have h2 := (World.ownsRow.stored h1 (k * 5 + 1) (.int .i64 x.p)).1
  have h3 := (World.ownsRow.stored h2 (k * 5 + 2) (.int .i64 x.t)).1
  have h4 := (World.ownsRow.stored h3 (k * 5 + 3) (.int .i64 x.n)).1
  have h5 := (World.ownsRow.stored h4 (k * 5 + 4) (.int .i64 x.s)).1
  unfold En.Own
  rw [List.length_set, ← dO_set xs k hk x]
  exact h5
theorem below_setO {B : Nat} {a w : World} (h : Below B a w) {g : Nat} (hp : B ≤ g) (k : Nat) (x : Outs) : Below B a (setO w g k x) :=
  below_set (below_set (below_set (below_set (below_set h hp _) hp _) hp _) hp _) hp _

theorem with_yes (A : Option Addr) (c k : Nat) (xs : List Outs) (x y : Outs) (f2 f3 : Nat) (K2 K3 : Array Value) (w : World) (e2 : Ent f2) (e3 : Ent f3) (h : dO.At w A c xs) (hb : xs.length * 40 ≤ 140737488355328) (hx : xs[k]? = some x)
    (hm : ∀ W, Below w.heap.size w W → Calls Try.prog f2 (#[x.val] ++ K2) W fun e w' => e = .returned (.bool true) ∧ Below W.heap.size W w')
    (hch : ∀ W, Below w.heap.size w W → Calls Try.prog f3 (#[x.val] ++ K3) W fun e w' => e = .returned y.val ∧ Below W.heap.size W w') :
    Calls Try.prog 24 #[.slice A xs.length c, .int .i64 k, .func (.func f2) #[] K2, .func (.func f3) #[] K3] w (MadeB w (xs.set k y) true) := by
  have hk : k < xs.length := (List.getElem?_eq_some_iff.1 hx).1
  obtain ⟨b, off, rfl, hbl, c0, c1, c2, c3, c4⟩ := at_getO h k x hx
  have H := Lib.hid h
  have HX := Lib.hid hx
  have HM := Lib.hid hm
  have HCH := Lib.hid hch
  clear h hx hm hch
  have he2 : ∀ args W, (callFunc f2 args).run Try.prog W = .ok (.enter f2 args) W := e2
  have he3 : ∀ args W, (callFunc f3 args).run Try.prog W = .ok (.enter f3 args) W := e3
  clear e2 e3
  have g1 : decide ((k : Int) < 0) = false := decide_eq_false (by omega)
  have g2 : decide (xs.length ≤ k) = false := decide_eq_false (by omega)
  go_enter Try.func24, Try.ntmps24
  go_wp2_with (go_at_call 39; refine (cloneO_any _ _ _ _ H.out hb).mono ?_; rintro e w1 ⟨A1, c1', rfl, hown, hbel⟩; obtain ⟨hc1, hf1, hz1⟩ := olds hbel; have HO := Lib.hid hown; have HB := Lib.hid hbel; clear hown hbel)
  refine (HM.out _ HB.out).mono ?_
  rintro e w2 ⟨rfl, hbel⟩
  have d0 := below_cell hbel ((hc1 b (off + k * 5) hbl).trans c0)
  have d1 := below_cell hbel ((hc1 b (off + k * 5 + 1) hbl).trans c1)
  have d2 := below_cell hbel ((hc1 b (off + k * 5 + 2) hbl).trans c2)
  have d3 := below_cell hbel ((hc1 b (off + k * 5 + 3) hbl).trans c3)
  have d4 := below_cell hbel ((hc1 b (off + k * 5 + 4) hbl).trans c4)
  have HB2 := Lib.hid hbel
  clear hbel c0 c1 c2 c3 c4
  go_wp2_with fail
  refine (HCH.out _ (below_step HB.out HB2.out)).mono ?_
  rintro e w3 ⟨he, hbel⟩
  have he' : e = .returned (.agg #[.int .i64 y.v, .int .i64 y.p, .int .i64 y.t, .int .i64 y.n, .int .i64 y.s]) := he
  clear he
  subst he'
  have O3 := Lib.hid ((HO.out.below HB2.out).below hbel)
  have B3 := Lib.hid (below_step (below_step HB.out HB2.out) hbel)
  clear hbel d0 d1 d2 d3 d4
  obtain ⟨g, rfl, hge, hlt, r0, r1, r2, r3, r4⟩ := own_getO O3.out k x HX.out
  have f0 := O3.out.free (k * 5)
  have f1 := O3.out.free (k * 5 + 1)
  have f2 := O3.out.free (k * 5 + 2)
  have f3 := O3.out.free (k * 5 + 3)
  have f4 := O3.out.free (k * 5 + 4)
  go_wp2_with fail
  go_ret2
  exact ⟨some ⟨g, 0, none⟩, c1', by simp, own_setO O3.out k hk y, below_setO B3.out hge k y⟩
end Go.Proofs.Ytgeocadpdpjmjaa.Out
