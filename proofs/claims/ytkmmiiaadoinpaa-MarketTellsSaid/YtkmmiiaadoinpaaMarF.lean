/- Contracts of the reference's Post, Copy, Take, Lose, Show. -/
import Derived.Test.YtkmmiiaadoinpaaMarE
namespace Go.Proofs.Ytkmmiiaadoinpaa.Mar
open Go.RowKit Go.Proofs.Ytkmmiiaadoinpaa.Mem

theorem there_any (A : Option Addr) (c : Nat) (xs : List Mail) (i : Int) (w : World) (_hc : c ≤ 9223372036854775807) (_hle : xs.length ≤ c) : Calls Try.prog 26 #[.slice A xs.length c, .int .i64 i] w fun e w' => e = .returned (.bool (here xs i)) ∧ w = w' := by
  unfold here
  by_cases h0 : 0 ≤ i
  · by_cases h1 : i < xs.length
    · rw [decide_eq_true ⟨h0, h1⟩]
      go_enter Try.func26, Try.ntmps26
      go_wp2
      go_ret
      exact ⟨rfl, rfl⟩
    · rw [decide_eq_false (fun k => h1 k.2)]
      go_enter Try.func26, Try.ntmps26
      go_wp2
      go_ret
      exact ⟨rfl, rfl⟩
  · rw [decide_eq_false (fun k => h0 k.1)]
    go_enter Try.func26, Try.ntmps26
    go_wp2
    go_ret
    exact ⟨rfl, rfl⟩

theorem refPost_any (A : Option Addr) (c : Nat) (xs : List Mail) (m : Mail) (w : World) (h : dM.At w A c xs) (hb : xs.length * 24 ≤ 140737488355328) :
    Calls Try.prog 12 #[.slice A xs.length c, .agg #[.int .i64 m.s, .int .i64 m.v, .int .i64 m.p]] w (MadeN w (postL xs m) (postE xs)) := by
  obtain ⟨i0, hi, iz, isz, iby⟩ := info_parts info26
  have H := Lib.hid h
  have hle := h.le
  have hmax := h.max
  clear h
  unfold postL postE
  by_cases hf : 100 ≤ xs.length
  · rw [if_pos hf, if_pos hf]
    go_enter Try.func12, Try.ntmps12
    go_wp2_with (at_builtin; refine wpList_app dM _ rfl _ _ 23 rfl w.heap.size 26 i0 _ 24 Try.underlying23 hi iz isz iby rfl none 0 0 [] rfl rfl ?own A c xs.length xs rfl rfl ?at_ ?m1 ?m2 ?m3 ?_)
    case own => exact En.Own.none_ _ _ _
    case at_ => exact H.out.below (below_alloc (Below.refl _ _) _)
    case m1 => simp only [List.length_nil]; omega
    case m2 => simp only [List.length_nil]; omega
    case m3 => simp
    intro A' c' w' hown hg hat
    have HO := Lib.hid hown
    have HG := Lib.hid hg
    clear hown hg hat
    go_wp2
    go_ret2
    exact ⟨A', c', by simp, HO.out, below_grown (below_alloc (Below.refl _ _) _) HG.out (fun k hk => by simp [Value.ownBlock] at hk)⟩
  · rw [if_neg hf, if_neg hf]
    go_enter Try.func12, Try.ntmps12
    go_wp2_with (at_builtin; refine wpList_app dM _ rfl _ _ 23 rfl (w.heap.size + 1) 26 i0 _ 24 Try.underlying23 hi iz isz iby rfl none 0 0 [] rfl rfl ?own A c xs.length xs rfl rfl ?at_ ?m1 ?m2 ?m3 ?_)
    case own => exact En.Own.none_ _ _ _
    case at_ => exact H.out.below (below_alloc (Below.refl _ _) _)
    case m1 => simp only [List.length_nil]; omega
    case m2 => simp only [List.length_nil]; omega
    case m3 => simp
    intro A' c' w1 hown hg hat
    have HB := Lib.hid (below_grown (below_alloc (Below.refl w.heap.size w) _) hg (fun k hk => by simp [Value.ownBlock] at hk))
    have q0 : w1.cell? ⟨w.heap.size, 0, none⟩ = some (.int .i64 m.s) := hg.cell (cell_new w _ _ _) (by simp [Value.ownBlock])
    have q1 : w1.cell? ⟨w.heap.size, 1, none⟩ = some (.int .i64 m.v) := hg.cell (cell_new w _ _ _) (by simp [Value.ownBlock])
    have q2 : w1.cell? ⟨w.heap.size, 2, none⟩ = some (.int .i64 m.p) := hg.cell (cell_new w _ _ _) (by simp [Value.ownBlock])
    have hsz : w.heap.size + 1 ≤ w1.heap.size := by have := hg.size; simpa using this
    have HO : Hid (dM.Own 26 w1 (w.heap.size + 1) A' c' xs) := hown
    clear hown hg hat
    go_wp2_with (at_builtin; refine wpList_app dM _ rfl _ _ 23 rfl (w.heap.size + 1) 26 i0 _ 24 Try.underlying23 hi iz isz iby rfl A' c' xs.length xs rfl rfl ?own2 (some ⟨w1.heap.size, 0, none⟩) 1 1 [m] rfl rfl ?at2 ?n1 ?n2 ?n3 ?_)
    case own2 => exact HO.out.below (below_alloc (Below.refl _ _) _)
    case at2 => exact at_one (cell_new w1 _ _ _) (cell_new w1 _ _ _) (cell_new w1 _ _ _)
    case n1 => simp; omega
    case n2 => simp; omega
    case n3 => simp; omega
    intro A2 c2 w2 hown hg hat
    have HO2 := Lib.hid hown
    have HG := Lib.hid hg
    clear hown hg hat
    go_wp2
    go_ret2
    exact ⟨A2, c2, by simp, HO2.out.lower (by omega), below_grown (below_alloc HB.out _) HG.out (fun k hk => by have := (HO.out.row k hk).1; omega)⟩

theorem refCopy_any (A : Option Addr) (c : Nat) (xs : List Mail) (i : Int) (w : World) (h : dM.At w A c xs) (hb : xs.length * 24 ≤ 140737488355328) :
    Calls Try.prog 16 #[.slice A xs.length c, .int .i64 i] w (MadeN w (copyL xs i) (copyE xs i)) := by
  obtain ⟨i0, hi, iz, isz, iby⟩ := info_parts info26
  have H := Lib.hid h
  have hle := h.le
  have hmax := h.max
  clear h
  have HT := Lib.hid (fun W => there_any A c xs i W hmax hle)
  unfold copyL copyE
  by_cases hi' : 0 ≤ i ∧ i < xs.length
  · have hh : here xs i = true := decide_eq_true hi'
    obtain ⟨k, rfl⟩ : ∃ k : Nat, i = k := ⟨i.toNat, by omega⟩
    have hk : k < xs.length := by omega
    have hm : takeM xs k = xs[k] := by
      unfold takeM
      rw [if_pos hh, Int.toNat_natCast, List.getD_eq_getElem?_getD, List.getElem?_eq_getElem hk]; rfl
    rw [if_pos hh, if_pos hh, hm]
    rw [hh] at HT
    clear hm hh hi'
    obtain ⟨b, off, rfl, hlt, hc⟩ := H.out.get k _ (List.getElem?_eq_getElem hk)
    have c0 : w.cell? ⟨b, off + k * 3, none⟩ = some (.int .i64 (xs[k]).s) := hc 0 (by decide)
    have c1 : w.cell? ⟨b, off + k * 3 + 1, none⟩ = some (.int .i64 (xs[k]).v) := hc 1 (by decide)
    have c2 : w.cell? ⟨b, off + k * 3 + 2, none⟩ = some (.int .i64 (xs[k]).p) := hc 2 (by decide)
    clear hc
    generalize xs[k] = m at c0 c1 c2 ⊢
    have HP := Lib.hid (fun W h => refPost_any (some ⟨b, off, none⟩) c xs m W h hb)
    generalize postL xs m = zs at HP ⊢
    generalize postE xs = n at HP ⊢
    go_enter Try.func16, Try.ntmps16
    go_wp2_with (first | (go_at_call 26; refine (HT.out _).mono ?_; rintro e w' ⟨rfl, rfl⟩) | (go_at_call 12; refine (HP.out _ H.out).mono ?_; rintro e w2 ⟨A2, c2, rfl, hown, hbel⟩; have HO := Lib.hid hown; have HB2 := Lib.hid hbel; clear hown hbel))
    go_ret2
    exact ⟨A2, c2, rfl, HO.out, HB2.out⟩
  · have hh : here xs i = false := decide_eq_false hi'
    rw [hh]
    rw [hh] at HT
    rw [if_neg (by decide), if_neg (by decide)]
    clear hh hi'
    go_enter Try.func16, Try.ntmps16
    go_wp2_with (first | (go_at_call 26; refine (HT.out _).mono ?_; rintro e w' ⟨rfl, rfl⟩) | (at_builtin; refine wpList_app dM _ rfl _ _ 23 rfl w.heap.size 26 i0 _ 24 Try.underlying23 hi iz isz iby rfl none 0 0 [] rfl rfl ?own A c xs.length xs rfl rfl ?at_ ?m1 ?m2 ?m3 ?_))
    case own => exact En.Own.none_ _ _ _
    case at_ => exact H.out
    case m1 => simp only [List.length_nil]; omega
    case m2 => simp only [List.length_nil]; omega
    case m3 => simp
    intro A' c' w' hown hg hat
    have HO := Lib.hid hown
    have HG := Lib.hid hg
    clear hown hg hat
    go_wp2
    go_ret2
    exact ⟨A', c', by simp, HO.out, below_grown (Below.refl _ _) HG.out (fun k hk => by simp [Value.ownBlock] at hk)⟩
end Go.Proofs.Ytkmmiiaadoinpaa.Mar
