/- Contracts of market's exported functions: Post, Take, Lose, Copy. -/
import Derived.Test.YtkmmiiaadoinpaaMarC
namespace Go.Proofs.Ytkmmiiaadoinpaa.Mar
open Go.RowKit Go.Proofs.Ytkmmiiaadoinpaa.Mem

theorem at_one {W : World} {g : Nat} {m : Mail} (h0 : W.cell? ⟨g, 0, none⟩ = some (.int .i64 m.s)) (h1 : W.cell? ⟨g, 1, none⟩ = some (.int .i64 m.v)) (h2 : W.cell? ⟨g, 2, none⟩ = some (.int .i64 m.p)) : dM.At W (some ⟨g, 0, none⟩) 1 [m] :=
  ⟨Nat.le_refl _, by omega, (fun e => by cases e), fun _ => ⟨g, 0, rfl, World.block_lt_of_cell? W _ h0, fun i hi => by
    have hi3 : i < 3 := hi
    match i, hi3 with
    | 0, _ => exact h0
    | 1, _ => exact h1
    | 2, _ => exact h2⟩⟩

/-- A list and a number. -/
def MadeN (w : World) (xs : List Mail) (n : Int) (r : Ending) (w' : World) : Prop := ∃ A c, r = .returned (.tuple #[.slice A xs.length c, .int .i64 n]) ∧ dM.Own 26 w' w.heap.size A c xs ∧ Below w.heap.size w w'

theorem post_full (A : Option Addr) (c : Nat) (xs : List Mail) (m : Mail) (w : World) (h : dM.At w A c xs) (hb : xs.length * 24 ≤ 140737488355328) (hf : 100 ≤ xs.length) :
    Calls Try.prog 11 #[.slice A xs.length c, .agg #[.int .i64 m.s, .int .i64 m.v, .int .i64 m.p]] w (MadeN w xs 50) := by
  have H := Lib.hid h
  clear h
  go_enter Try.func11, Try.ntmps11
  go_wp2_with (go_at_call 24; refine (cloneM_any _ _ _ _ (H.out.below (below_alloc (Below.refl _ _) _)) hb).mono ?_; rintro e w1 ⟨A1, c1, rfl, hown, hbel⟩)
  have HO := Lib.hid hown
  have HB := Lib.hid hbel
  clear hown hbel
  go_wp2
  go_ret2
  exact ⟨A1, c1, rfl, HO.out.lower (by simp), below_step (below_alloc (Below.refl _ _) _) HB.out⟩

set_option maxHeartbeats 1000000 in
theorem post_room (A : Option Addr) (c : Nat) (xs : List Mail) (m : Mail) (w : World) (h : dM.At w A c xs) (hf : xs.length < 100) :
    Calls Try.prog 11 #[.slice A xs.length c, .agg #[.int .i64 m.s, .int .i64 m.v, .int .i64 m.p]] w (MadeN w (xs ++ [m]) 0) := by
  obtain ⟨i0, hi, iz, isz, iby⟩ := info_parts info26
  have H := Lib.hid h
  clear h
  have hb : xs.length * 24 ≤ 140737488355328 := by omega
  go_enter Try.func11, Try.ntmps11
  go_wp2_with fail
  go_region_held3 (fun w' => w'.cell? ⟨w.heap.size, 0, none⟩ = some (.int .i64 m.s) ∧ w'.cell? ⟨w.heap.size, 1, none⟩ = some (.int .i64 m.v) ∧ w'.cell? ⟨w.heap.size, 2, none⟩ = some (.int .i64 m.p))
    (first
      | exact hq
      | exact grown3 hg (fun e => Nat.lt_irrefl _ (hr _ e.symm)) (fun e => Nat.lt_irrefl _ (hr _ e.symm)) (fun e => Nat.lt_irrefl _ (hr _ e.symm)) (by assumption)
      | go_keep)
    (first
      | (go_at_call 24; go_must (refine (cloneM_any _ _ _ _ ?_ hb).mono ?_; (refine H.out.below ?_; (repeat (first | exact Below.refl _ _ | refine below_alloc ?_ _ | refine below_drew ?_ | refine below_drewN ?_ _))); rintro e w1 ⟨A1, c1, rfl, hown, hbel⟩; obtain ⟨hc1, hf1, hz1⟩ := olds hbel; have hq : w1.cell? ⟨w.heap.size, 0, none⟩ = some (.int .i64 m.s) ∧ w1.cell? ⟨w.heap.size, 1, none⟩ = some (.int .i64 m.v) ∧ w1.cell? ⟨w.heap.size, 2, none⟩ = some (.int .i64 m.p) := keep3 hbel (by assumption); have HB := Lib.hid (below_step (w := w) (by (repeat (first | exact Below.refl _ _ | refine below_alloc ?_ _ | refine below_drew ?_ | refine below_drewN ?_ _))) hbel); have hr : ∀ k, (Value.slice A1 xs.length c1).ownBlock = some k → w.heap.size < k := (by intro k hk; have h1 := (hown.row k hk).1; simp at h1; omega); have HO := Lib.hid (hown.lower (base' := w.heap.size) (Below.size (w := w) (B := w.heap.size) (by (repeat (first | exact Below.refl _ _ | refine below_alloc ?_ _ | refine below_drew ?_ | refine below_drewN ?_ _))))); clear hown hbel))
      | (refine step_app dM _ (by rfl) _ _ _ (by rfl) w.heap.size 26 i0 _ 24 Try.underlying23 hi iz isz iby rfl A1 c1 _ xs (by rfl) rfl ?_ _ _ _ [m] (by rfl) rfl ?_ ?_ ?_ ?_ ?_; (first | exact HO.out.below (below_alloc (Below.refl _ _) _) | exact HO.out); (refine at_one ?_ ?_ ?_ <;> first | (go_simp; done) | (rw [hc1 _ _ (by simp)]; go_simp)); (simp; omega); (simp; omega); (have h9 := HB.out.size; simp; omega); intro A' c' w' hown hg hat; have HO' := Lib.hid hown; have HG := Lib.hid hg; clear hown))
  all_goals go_wp2
  all_goals go_ret2
  all_goals refine ⟨A', c', by simp, HO'.out, ?_⟩
  all_goals first
    | exact below_grown (below_alloc HB.out _) HG.out (fun k hk => Nat.le_of_lt (hr k hk))
    | exact below_grown HB.out HG.out (fun k hk => Nat.le_of_lt (hr k hk))

def postL (xs : List Mail) (m : Mail) : List Mail := if 100 ≤ xs.length then xs else xs ++ [m]
def postE (xs : List Mail) : Int := if 100 ≤ xs.length then 50 else 0
theorem post_any (A : Option Addr) (c : Nat) (xs : List Mail) (m : Mail) (w : World) (h : dM.At w A c xs) (hb : xs.length * 24 ≤ 140737488355328) :
    Calls Try.prog 11 #[.slice A xs.length c, .agg #[.int .i64 m.s, .int .i64 m.v, .int .i64 m.p]] w (MadeN w (postL xs m) (postE xs)) := by
  unfold postL postE
  by_cases hf : 100 ≤ xs.length
  · rw [if_pos hf, if_pos hf]; exact post_full A c xs m w h hb hf
  · rw [if_neg hf, if_neg hf]; exact post_room A c xs m w h (by omega)

/-! without, at every place. -/
def here (xs : List Mail) (i : Int) : Bool := decide (0 ≤ i ∧ i < xs.length)
def takeM (xs : List Mail) (i : Int) : Mail := if here xs i = true then xs.getD i.toNat ⟨0, 0, 0⟩ else ⟨0, 0, 0⟩
def takeL (xs : List Mail) (i : Int) : List Mail := if here xs i = true then xs.eraseIdx i.toNat else xs
theorem without_any (A : Option Addr) (c : Nat) (xs : List Mail) (i : Int) (w : World) (h : dM.At w A c xs) (hb : xs.length * 24 ≤ 140737488355328) :
    Calls Try.prog 25 #[.slice A xs.length c, .int .i64 i] w (Took w (takeM xs i) (takeL xs i) (here xs i)) := by
  unfold takeM takeL
  by_cases hi : 0 ≤ i ∧ i < xs.length
  · have hh : here xs i = true := decide_eq_true hi
    rw [if_pos hh, if_pos hh, hh]
    obtain ⟨k, rfl⟩ : ∃ k : Nat, i = k := ⟨i.toNat, by omega⟩
    obtain ⟨b, off, rfl, _⟩ := h.cell (by omega)
    have hk : k < xs.length := by omega
    exact without_in b off c k xs _ w h hb hk (by rw [Int.toNat_natCast, List.getD_eq_getElem?_getD, List.getElem?_eq_getElem hk]; rfl)
  · have hh : here xs i = false := decide_eq_false hi
    rw [hh]
    exact without_out A c xs i w h hb (by omega)

theorem take_any (A : Option Addr) (c : Nat) (xs : List Mail) (i : Int) (w : World) (h : dM.At w A c xs) (hb : xs.length * 24 ≤ 140737488355328) :
    Calls Try.prog 19 #[.slice A xs.length c, .int .i64 i] w (Took w (takeM xs i) (takeL xs i) (here xs i)) := by
  have H := Lib.hid h
  clear h
  go_enter Try.func19, Try.ntmps19
  go_wp2_with (go_at_call 25; refine (without_any _ _ _ _ _ (H.out.below (below_alloc (Below.refl _ _) _)) hb).mono ?_; rintro e w1 ⟨A1, c1, rfl, hown, hbel⟩; obtain ⟨hc1, hf1, hz1⟩ := olds hbel; have HO := Lib.hid hown; have HB := Lib.hid hbel; clear hown hbel)
  refine bodyPost_ret (v := .tuple #[.agg #[.int .i64 (takeM xs i).s, .int .i64 (takeM xs i).v, .int .i64 (takeM xs i).p], .slice A1 (takeL xs i).length c1, .bool (here xs i)]) ?_ rfl ⟨A1, c1, rfl, ?_, ?_⟩
  · simp [results, Try.results19, go_sem, hc1]
  · exact (((HO.out.far (by simp) _).far (by simp) _).far (by simp) _).lower (by simp)
  · exact below_set (below_set (below_set (below_step (below_alloc (Below.refl _ _) _) HB.out) (by simp) _) (by simp) _) (by simp) _

theorem lose_any (A : Option Addr) (c : Nat) (xs : List Mail) (i : Int) (w : World) (h : dM.At w A c xs) (hb : xs.length * 24 ≤ 140737488355328) :
    Calls Try.prog 17 #[.slice A xs.length c, .int .i64 i] w (MadeN w (takeL xs i) (if here xs i = true then 0 else 1)) := by
  have H := Lib.hid h
  clear h
  have HC := Lib.hid (fun W h => without_any A c xs i W h hb)
  generalize takeL xs i = ys at HC ⊢
  generalize takeM xs i = m at HC
  generalize here xs i = b at HC ⊢
  cases b
  · rw [if_neg (by decide)]
    go_enter Try.func17, Try.ntmps17
    go_wp2_with (go_at_call 25; refine (HC.out _ H.out).mono ?_; rintro e w1 ⟨A1, c1, rfl, hown, hbel⟩; obtain ⟨hc1, hf1, hz1⟩ := olds hbel; have HO := Lib.hid hown; have HB := Lib.hid hbel; clear hown hbel)
    go_ret2
    exact ⟨A1, c1, rfl, HO.out.below (below_alloc (Below.refl _ _) _), below_alloc HB.out _⟩
  · rw [if_pos rfl]
    go_enter Try.func17, Try.ntmps17
    go_wp2_with (go_at_call 25; refine (HC.out _ H.out).mono ?_; rintro e w1 ⟨A1, c1, rfl, hown, hbel⟩; obtain ⟨hc1, hf1, hz1⟩ := olds hbel; have HO := Lib.hid hown; have HB := Lib.hid hbel; clear hown hbel)
    go_ret2
    exact ⟨A1, c1, rfl, HO.out.below (below_alloc (Below.refl _ _) _), below_alloc HB.out _⟩

def copyL (xs : List Mail) (i : Int) : List Mail := if here xs i = true then postL xs (takeM xs i) else xs
def copyE (xs : List Mail) (i : Int) : Int := if here xs i = true then postE xs else 1
theorem copy_any (A : Option Addr) (c : Nat) (xs : List Mail) (i : Int) (w : World) (h : dM.At w A c xs) (hb : xs.length * 24 ≤ 140737488355328) :
    Calls Try.prog 15 #[.slice A xs.length c, .int .i64 i] w (MadeN w (copyL xs i) (copyE xs i)) := by
  have H := Lib.hid h
  clear h
  have HC := Lib.hid (fun W h => without_any A c xs i W h hb)
  unfold copyL copyE
  generalize takeL xs i = ys at HC
  generalize takeM xs i = m at HC ⊢
  generalize here xs i = b at HC ⊢
  cases b
  · rw [if_neg (by decide), if_neg (by decide)]
    go_enter Try.func15, Try.ntmps15
    go_wp2_with (first | (go_at_call 25; refine (HC.out _ H.out).mono ?_; rintro e w1 ⟨A1, c1, rfl, hown, hbel⟩; obtain ⟨hc1, hf1, hz1⟩ := olds hbel; have HB := Lib.hid hbel; clear hown hbel) | (go_at_call 24; refine (cloneM_any A c xs _ (H.out.below (below_alloc HB.out _)) hb).mono ?_; rintro e w2 ⟨A2, c2, rfl, hown, hbel⟩; have HO := Lib.hid hown; have HB2 := Lib.hid hbel; clear hown hbel))
    go_ret2
    exact ⟨A2, c2, rfl, HO.out.lower (below_alloc HB.out _).size, below_step (below_alloc HB.out _) HB2.out⟩
  · rw [if_pos rfl, if_pos rfl]
    have HP := Lib.hid (fun W h => post_any A c xs m W h hb)
    generalize postL xs m = zs at HP ⊢
    generalize postE xs = n at HP ⊢
    go_enter Try.func15, Try.ntmps15
    go_wp2_with (first | (go_at_call 25; refine (HC.out _ H.out).mono ?_; rintro e w1 ⟨A1, c1, rfl, hown, hbel⟩; obtain ⟨hc1, hf1, hz1⟩ := olds hbel; have HB := Lib.hid hbel; clear hown hbel) | (go_at_call 11; refine (HP.out _ (H.out.below (below_alloc HB.out _))).mono ?_; rintro e w2 ⟨A2, c2, rfl, hown, hbel⟩; have HO := Lib.hid hown; have HB2 := Lib.hid hbel; clear hown hbel))
    go_ret2
    exact ⟨A2, c2, rfl, HO.out.lower (below_alloc HB.out _).size, below_step (below_alloc HB.out _) HB2.out⟩
end Go.Proofs.Ytkmmiiaadoinpaa.Mar
