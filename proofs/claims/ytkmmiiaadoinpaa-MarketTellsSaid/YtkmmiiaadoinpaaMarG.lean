/- Contracts of the reference's Take and Lose. -/
import Derived.Test.YtkmmiiaadoinpaaMarF
namespace Go.Proofs.Ytkmmiiaadoinpaa.Mar
open Go.RowKit Go.Proofs.Ytkmmiiaadoinpaa.Mem

def upL (xs : List Mail) (i : Int) (k : Nat) : List Mail := takeL (xs.take k) i
def upM (xs : List Mail) (i : Int) (k : Nat) : Mail := takeM (xs.take k) i
theorem up_len (xs : List Mail) (k : Nat) (hk : k ≤ xs.length) : (xs.take k).length = k := by rw [List.length_take, Nat.min_eq_left hk]
theorem take_snoc {α : Type} (xs : List α) (k : Nat) (x : α) (hx : xs[k]? = some x) : xs.take (k + 1) = xs.take k ++ [x] := by
  rw [List.take_add_one, hx]; rfl
theorem up_hit (xs : List Mail) (k : Nat) (x : Mail) (hx : xs[k]? = some x) : upL xs k (k + 1) = upL xs k k ∧ upM xs k (k + 1) = x := by
  have hk : k < xs.length := (List.getElem?_eq_some_iff.1 hx).1
  have h1 : here (xs.take (k + 1)) (k : Int) = true := decide_eq_true (by rw [up_len _ _ hk]; omega)
  have h0 : here (xs.take k) (k : Int) = false := decide_eq_false (by rw [up_len _ _ (by omega)]; omega)
  unfold upL upM takeL takeM
  rw [if_pos h1, if_pos h1, h0, if_neg (by decide), Int.toNat_natCast, take_snoc xs k x hx]
  have hl := up_len xs k (by omega)
  constructor
  · rw [List.eraseIdx_append_of_length_le (by omega), hl, Nat.sub_self]; simp
  · rw [List.getD_eq_getElem?_getD, List.getElem?_append_right (by omega), hl, Nat.sub_self]; rfl
theorem up_miss (xs : List Mail) (i : Int) (k : Nat) (x : Mail) (hx : xs[k]? = some x) (hne : (k : Int) ≠ i) : upL xs i (k + 1) = upL xs i k ++ [x] ∧ upM xs i (k + 1) = upM xs i k := by
  have hk : k < xs.length := (List.getElem?_eq_some_iff.1 hx).1
  have hl := up_len xs k (by omega)
  unfold upL upM takeL takeM
  by_cases h : 0 ≤ i ∧ i < k
  · have h1 : here (xs.take (k + 1)) i = true := decide_eq_true (by rw [up_len _ _ hk]; omega)
    have h0 : here (xs.take k) i = true := decide_eq_true (by rw [hl]; omega)
    rw [if_pos h1, if_pos h1, if_pos h0, if_pos h0, take_snoc xs k x hx]
    constructor
    · rw [List.eraseIdx_append_of_lt_length (by omega)]
    · rw [List.getD_eq_getElem?_getD, List.getD_eq_getElem?_getD, List.getElem?_append_left (by omega)]
  · have h1 : ¬ here (xs.take (k + 1)) i = true := fun e => by have := of_decide_eq_true e; rw [up_len _ _ hk] at this; omega
    have h0 : ¬ here (xs.take k) i = true := fun e => by have := of_decide_eq_true e; rw [hl] at this; omega
    rw [if_neg h1, if_neg h1, if_neg h0, if_neg h0, take_snoc xs k x hx]
    exact ⟨rfl, rfl⟩
theorem up_zero (xs : List Mail) (i : Int) : upL xs i 0 = [] ∧ upM xs i 0 = ⟨0, 0, 0⟩ := by
  have h : ¬ here ([] : List Mail) i = true := fun e => by have := of_decide_eq_true e; simp at this; omega
  unfold upL upM takeL takeM
  rw [List.take_zero, if_neg h, if_neg h]
  exact ⟨rfl, rfl⟩
theorem up_all (xs : List Mail) (i : Int) : upL xs i xs.length = takeL xs i ∧ upM xs i xs.length = takeM xs i := by
  unfold upL upM
  rw [List.take_length]
  exact ⟨rfl, rfl⟩
theorem up_le (xs : List Mail) (i : Int) (k : Nat) (hk : k ≤ xs.length) : (upL xs i k).length ≤ k := by
  unfold upL takeL
  have hl := up_len xs k hk
  split
  · rw [List.length_eraseIdx]; split <;> omega
  · omega

/-- Block g is just these three whole numbers, none frozen. -/
def Box (w : World) (g : Nat) (m : Mail) : Prop := w.heap[g]? = some (.cells #[.int .i64 m.s, .int .i64 m.v, .int .i64 m.p] 26 (0, 0))
theorem Box.c0 {w : World} {g : Nat} {m : Mail} (h : Box w g m) : w.cell? ⟨g, 0, none⟩ = some (.int .i64 m.s) := cell_of_row w g 0 _ _ _ h
theorem Box.c1 {w : World} {g : Nat} {m : Mail} (h : Box w g m) : w.cell? ⟨g, 1, none⟩ = some (.int .i64 m.v) := cell_of_row w g 1 _ _ _ h
theorem Box.c2 {w : World} {g : Nat} {m : Mail} (h : Box w g m) : w.cell? ⟨g, 2, none⟩ = some (.int .i64 m.p) := cell_of_row w g 2 _ _ _ h
theorem Box.free {w : World} {g : Nat} {m : Mail} (h : Box w g m) (j : Nat) : w.frozen? ⟨g, j, none⟩ = false := frozen_of_row w g j _ _ h
theorem Box.lt {w : World} {g : Nat} {m : Mail} (h : Box w g m) : g < w.heap.size := World.block_lt_of_cell? w _ h.c0
theorem Box.grown {w w' : World} {g : Nat} {m : Mail} {row : Option Nat} (h : Box w g m) (hg : w.grownBy w' row) (hne : some g ≠ row) : Box w' g m := (hg.block g h.lt hne).trans h
theorem Box.below {w w' : World} {g : Nat} {m : Mail} (h : Box w g m) (hb : Below w.heap.size w w') : Box w' g m := (hb.block g h.lt).trans h
theorem Box.alloc {w : World} {g : Nat} {m : Mail} (h : Box w g m) (o : Obj) : Box (w.alloc o) g m := (Below.heap_alloc w o g h.lt).trans h
theorem Box.drewN {w : World} {g : Nat} {m : Mail} (h : Box w g m) (n : Nat) : Box (w.drewN n) g m := h
theorem Box.drew {w : World} {g : Nat} {m : Mail} (h : Box w g m) : Box w.drew g m := h
theorem Box.far {w : World} {g : Nat} {m : Mail} (h : Box w g m) {p : Addr} (hp : g ≠ p.block) (u : Value) : Box (w.setCell p u) g m := (Below.heap_setCell w p u g hp).trans h
theorem Box.new (w : World) (m : Mail) : Box (w.alloc (.cells #[.int .i64 m.s, .int .i64 m.v, .int .i64 m.p] 26)) w.heap.size m := heap_alloc_new w _
theorem Box.set_ {w : World} {g : Nat} {m : Mail} (h : Box w g m) (m' : Mail) : Box (((w.setCell ⟨g, 0, none⟩ (.int .i64 m'.s)).setCell ⟨g, 1, none⟩ (.int .i64 m'.v)).setCell ⟨g, 2, none⟩ (.int .i64 m'.p)) g m' :=
  heap_setCell_same _ g 2 _ 26 (.int .i64 m'.p) (heap_setCell_same _ g 1 _ 26 (.int .i64 m'.v) (heap_setCell_same w g 0 _ 26 (.int .i64 m'.s) h))

set_option maxHeartbeats 2000000 in
theorem refTake_any (A : Option Addr) (c : Nat) (xs : List Mail) (i : Int) (w : World) (h : dM.At w A c xs) (hb : xs.length * 24 ≤ 140737488355328) :
    Calls Try.prog 20 #[.slice A xs.length c, .int .i64 i] w (Took w (takeM xs i) (takeL xs i) (here xs i)) := by
  obtain ⟨i0, hi, iz, isz, iby⟩ := info_parts info26
  have H := Lib.hid h
  have hle := h.le
  have hmax := h.max
  clear h
  go_enter Try.func20, Try.ntmps20
  go_wp2
  go_loopw [7, 9] (fun v kk wr => ∃ (k : Nat) (A' : Option Addr) (c' : Nat), k ≤ xs.length ∧ kk = .int .i64 k ∧ v = .slice A' (upL xs i k).length c' ∧ Hid (dM.Own 26 wr (w.heap.size + 2) A' c' (upL xs i k)) ∧ Hid (Box wr w.heap.size ⟨0, 0, 0⟩) ∧ Hid (Box wr (w.heap.size + 1) (upM xs i k)) ∧ Hid (Below w.heap.size w wr)) (fun _ kk _ => xs.length - (intOf kk).toNat)
  case atStart =>
    refine ⟨0, none, 0, Nat.zero_le _, rfl, slc (by rw [(up_zero xs i).1]; rfl), ?_, ?_, ?_, ?_⟩
    · rw [(up_zero xs i).1]; exact En.Own.none_ _ _ _
    · exact Box.alloc (Box.new w ⟨0, 0, 0⟩) _
    · rw [(up_zero xs i).2]
      have hz := Box.new (w.alloc (.cells #[.int .i64 0, .int .i64 0, .int .i64 0] 26)) ⟨0, 0, 0⟩
      have e : (w.alloc (.cells #[.int .i64 0, .int .i64 0, .int .i64 0] 26)).heap.size = w.heap.size + 1 := by simp
      rw [e] at hz
      exact hz
    · exact below_alloc (below_alloc (Below.refl _ _) _) _
  case round =>
    obtain ⟨k, A', c', hk, rfl, rfl, HO, HR, HM, HB⟩ := hrel
    by_cases hlt : k < xs.length
    · have hx : xs[k]? = some xs[k] := List.getElem?_eq_getElem hlt
      obtain ⟨b, off, rfl, hbl, hc⟩ := H.out.get k _ hx
      have c0 := below_cell HB.out (hc 0 (by decide))
      have c1 := below_cell HB.out (hc 1 (by decide))
      have c2 := below_cell HB.out (hc 2 (by decide))
      clear hc
      have HX := Lib.hid hx
      clear hx
      generalize xs[k] = x at c0 c1 c2 HX
      have d0 : wr.cell? ⟨b, off + k * 3, none⟩ = some (.int .i64 x.s) := c0
      have d1 : wr.cell? ⟨b, off + k * 3 + 1, none⟩ = some (.int .i64 x.v) := c1
      have d2 : wr.cell? ⟨b, off + k * 3 + 2, none⟩ = some (.int .i64 x.p) := c2
      clear c0 c1 c2
      by_cases hik : (k : Int) = i
      · subst hik
        obtain ⟨u1, u2⟩ := up_hit xs k x HX.out
        have b0 := HM.out.c0
        have b1 := HM.out.c1
        have b2 := HM.out.c2
        have f0 := HM.out.free 0
        have f1 := HM.out.free 1
        have f2 := HM.out.free 2
        have U1 := Lib.hid u1
        have U2 := Lib.hid u2
        clear u1 u2
        go_wp2
        go_roundw
        case rel => exact ⟨k + 1, A', c', by omega, by go_num, slc (by rw [U1.out]), by rw [U1.out]; exact ((HO.out.far (by show _ < _; simp) _).far (by show _ < _; simp) _).far (by show _ < _; simp) _, ((HR.out.far (by simp) _).far (by simp) _).far (by simp) _, by rw [U2.out]; exact HM.out.set_ x, below_set (below_set (below_set HB.out (by simp) _) (by simp) _) (by simp) _⟩
        case measure => simp [intOf]; omega
      · have g1 : ((k : Int) == i) = false := by simpa using hik
        obtain ⟨u1, u2⟩ := up_miss xs i k x HX.out hik
        have ul := up_le xs i k hk
        have U1 := Lib.hid u1
        have U2 := Lib.hid u2
        clear u1 u2 hik
        have hsz := HB.out.size
        have hs2 := HM.out.lt
        go_wp2_with (at_builtin; refine wpList_app dM _ rfl _ _ 23 rfl (w.heap.size + 2) 26 i0 _ 24 Try.underlying23 hi iz isz iby rfl A' c' _ (upL xs i k) rfl rfl ?own (some ⟨wr.heap.size, 0, none⟩) 1 1 [x] rfl rfl ?at_ ?m1 ?m2 ?m3 ?_)
        case own => exact HO.out.below (below_alloc (Below.refl _ _) _)
        case at_ => exact at_one (cell_new wr _ _ _) (cell_new wr _ _ _) (cell_new wr _ _ _)
        case m1 => simp; omega
        case m2 => simp; omega
        case m3 => simp; omega
        intro A2 c2 w2 hown hg hat
        have HO2 := Lib.hid hown
        have HG := Lib.hid hg
        clear hown hg hat
        go_wp2
        go_roundw
        case rel => exact ⟨k + 1, A2, c2, by omega, by go_num, slc (by rw [U1.out]; simp), by rw [U1.out]; exact HO2.out, (HR.out.alloc _).grown HG.out (fun e => by have := (HO.out.row _ e.symm).1; omega), by rw [U2.out]; exact (HM.out.alloc _).grown HG.out (fun e => by have := (HO.out.row _ e.symm).1; omega), below_grown (below_alloc HB.out _) HG.out (fun q hq => by have := (HO.out.row q hq).1; omega)⟩
        case measure => simp [intOf]; omega
    · have hkl : k = xs.length := by omega
      subst hkl
      obtain ⟨u1, u2⟩ := up_all xs i
      rw [u1] at HO
      rw [u2] at HM
      have b0 := HM.out.c0
      have b1 := HM.out.c1
      have b2 := HM.out.c2
      have r0 := HR.out.c0
      have r1 := HR.out.c1
      have r2 := HR.out.c2
      have f0 := HR.out.free 0
      have f1 := HR.out.free 1
      have f2 := HR.out.free 2
      rw [u1]
      clear u1 u2
      go_wp2_with fail
      go_region_with (first | (go_at_call 26; refine (there_any _ _ _ _ _ hmax hle).mono ?_; rintro e w' ⟨rfl, rfl⟩))
      all_goals go_wp2
      all_goals refine bodyPost_ret (v := .tuple #[.agg #[.int .i64 (takeM xs i).s, .int .i64 (takeM xs i).v, .int .i64 (takeM xs i).p], .slice A' (takeL xs i).length c', .bool (here xs i)]) ?_ rfl ⟨A', c', rfl, ?_, ?_⟩
      all_goals first
        | exact (((HO.out.far (by simp) _).far (by simp) _).far (by simp) _).lower (by simp)
        | exact below_drew (below_set (below_set (below_set HB.out (by simp) _) (by simp) _) (by simp) _)
        | (simp [results, Try.results20, go_sem, r0, r1, r2]; done)

theorem refLose_any (A : Option Addr) (c : Nat) (xs : List Mail) (i : Int) (w : World) (h : dM.At w A c xs) (hb : xs.length * 24 ≤ 140737488355328) :
    Calls Try.prog 18 #[.slice A xs.length c, .int .i64 i] w (MadeN w (takeL xs i) (if here xs i = true then 0 else 1)) := by
  have H := Lib.hid h
  clear h
  have HC := Lib.hid (fun W h => refTake_any A c xs i W h hb)
  generalize takeL xs i = ys at HC ⊢
  generalize takeM xs i = m at HC
  generalize here xs i = b at HC ⊢
  cases b
  · rw [if_neg (by decide)]
    go_enter Try.func18, Try.ntmps18
    go_wp2_with (go_at_call 20; refine (HC.out _ H.out).mono ?_; rintro e w1 ⟨A1, c1, rfl, hown, hbel⟩; obtain ⟨hc1, hf1, hz1⟩ := olds hbel; have HO := Lib.hid hown; have HB := Lib.hid hbel; clear hown hbel)
    go_ret2
    exact ⟨A1, c1, rfl, HO.out.below (below_alloc (Below.refl _ _) _), below_alloc HB.out _⟩
  · rw [if_pos rfl]
    go_enter Try.func18, Try.ntmps18
    go_wp2_with (go_at_call 20; refine (HC.out _ H.out).mono ?_; rintro e w1 ⟨A1, c1, rfl, hown, hbel⟩; obtain ⟨hc1, hf1, hz1⟩ := olds hbel; have HO := Lib.hid hown; have HB := Lib.hid hbel; clear hown hbel)
    go_ret2
    exact ⟨A1, c1, rfl, HO.out.below (below_alloc (Below.refl _ _) _), below_alloc HB.out _⟩
end Go.Proofs.Ytkmmiiaadoinpaa.Mar
