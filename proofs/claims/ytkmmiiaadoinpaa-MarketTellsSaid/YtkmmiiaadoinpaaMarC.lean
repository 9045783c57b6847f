/- Contracts of market.without at []Mail. -/
import Derived.Test.YtkmmiiaadoinpaaMarB
import Derived.IntWalk
import Derived.Deep.RegionLaw
import Derived.Deep.RegionWith
namespace Go.Proofs.Ytkmmiiaadoinpaa.Mar
open Go.RowKit Go.Proofs.Ytkmmiiaadoinpaa.Mem

def Took (w : World) (m : Mail) (xs : List Mail) (b : Bool) (r : Ending) (w' : World) : Prop :=
  ∃ A c, r = .returned (.tuple #[.agg #[.int .i64 m.s, .int .i64 m.v, .int .i64 m.p], .slice A xs.length c, .bool b]) ∧ dM.Own 26 w' w.heap.size A c xs ∧ Below w.heap.size w w'


set_option maxHeartbeats 1000000 in
theorem without_out (A : Option Addr) (c : Nat) (xs : List Mail) (i : Int) (w : World) (h : dM.At w A c xs) (hb : xs.length * 24 ≤ 140737488355328) (ho : i < 0 ∨ (0 ≤ i ∧ (xs.length : Int) ≤ i)) :
    Calls Try.prog 25 #[.slice A xs.length c, .int .i64 i] w (Took w ⟨0, 0, 0⟩ xs false) := by
  have H := Lib.hid h
  clear h
  have hmax := H.out.max
  have hle := H.out.le
  rcases ho with hneg | ⟨hneg, hbig⟩
  all_goals
    go_enter Try.func25, Try.ntmps25
    go_wp2_with fail
    go_region_with (first | (go_at_call 24; refine (cloneM_any _ _ _ _ (H.out.below (below_drewN (below_alloc (Below.refl _ _) _) 1)) hb).mono ?_; rintro e w1 ⟨A1, c1, rfl, hown, hbel⟩; obtain ⟨hc1, hf1, hz1⟩ := olds hbel; have HO := Lib.hid hown; have HB := Lib.hid hbel; clear hown hbel))
    all_goals go_wp2
    all_goals refine bodyPost_ret (v := .tuple #[.agg #[.int .i64 0, .int .i64 0, .int .i64 0], .slice A1 xs.length c1, .bool false]) (by simp [results, Try.results25, go_sem, hc1]) rfl ⟨A1, c1, rfl, ?_, ?_⟩
    all_goals first
      | exact (((HO.out.far (by simp) _).far (by simp) _).far (by simp) _).lower (by simp)
      | exact below_set (below_set (below_set (below_then (below_drewN (below_alloc (Below.refl _ _) _) 1) (by simp) HB.out) (by simp) _) (by simp) _) (by simp) _

theorem concat_rest (b off c k B n2 c2 : Nat) (A2 : Option Addr) (xs : List Mail) (W : World) (h1 : W.cell? ⟨B, 0, none⟩ = some (.slice (some ⟨b, off, none⟩) k c)) (h2 : W.cell? ⟨B, 1, none⟩ = some (.slice A2 n2 c2)) (en : n2 = xs.length - (k + 1)) (ec : c2 = c - (k + 1))
    (hA : A2 = some (if c = k + 1 then ⟨b, off, none⟩ else ⟨b, off + (k + 1) * dM.sz, none⟩)) (h : dM.At W (some ⟨b, off, none⟩) c xs) (hb : xs.length * 24 ≤ 140737488355328) (hk : k < xs.length) :
    Calls Try.prog 28 #[.slice (some ⟨B, 0, none⟩) 2 2] W (Made dM 26 W (xs.eraseIdx k)) := by
  subst en
  subst ec
  rw [List.eraseIdx_eq_take_drop_succ]
  refine concat_any B _ A2 c _ k (xs.length - (k + 1)) _ _ W ?_ ?_ h1 h2 (h.take k (by omega)) (h.drop (k + 1) hk A2 hA) ?_
  · rw [List.length_take, Nat.min_eq_left (by omega)]
  · rw [List.length_drop]
  · rw [List.length_take, Nat.min_eq_left (by omega), List.length_drop]; omega

set_option maxHeartbeats 4000000 in
theorem without_in (b off c k : Nat) (xs : List Mail) (m : Mail) (w : World) (h : dM.At w (some ⟨b, off, none⟩) c xs) (hb : xs.length * 24 ≤ 140737488355328) (hk : k < xs.length) (hm : xs[k]? = some m) :
    Calls Try.prog 25 #[.slice (some ⟨b, off, none⟩) xs.length c, .int .i64 k] w (Took w m (xs.eraseIdx k) true) := by
  have hmax := h.max
  have hle := h.le
  obtain ⟨b', off', hA, hlt, hc⟩ := h.get k m hm
  injection hA with hA
  injection hA with e1 e2
  subst e1
  subst e2
  have c0 : w.cell? ⟨b, off + k * 3, none⟩ = some (.int .i64 m.s) := hc 0 (by decide)
  have c1 : w.cell? ⟨b, off + k * 3 + 1, none⟩ = some (.int .i64 m.v) := hc 1 (by decide)
  have c2 : w.cell? ⟨b, off + k * 3 + 2, none⟩ = some (.int .i64 m.p) := hc 2 (by decide)
  clear hc
  have H := Lib.hid h
  clear h
  have HM := Lib.hid hm
  clear hm
  have b1 : (0 : Int) ≤ (k : Int) + 1 := by omega
  have b2 : (k : Int) + 1 ≤ (xs.length : Int) := by omega
  have b3 : (0 : Int) ≤ (k : Int) := by omega
  have b4 : (k : Int) < (xs.length : Int) := by omega
  have b5 : (k : Int) ≤ (c : Int) := by omega
  have s1 : IntKind.i64.wrap ((k : Int) + 1) = (k : Int) + 1 := IntWalk.i64_in _ (by omega)
  have s2 : ((k : Int) + 1).toNat = k + 1 := by omega
  by_cases hck : c = k + 1
  · subst hck
    go_enter Try.func25, Try.ntmps25
    go_wp2_with fail
    go_region_with (first | (go_at_call 28; go_must (refine (concat_rest b off (k + 1) k _ (xs.length - (k + 1)) 0 (some ⟨b, off, none⟩) xs _ (by go_simp) (by go_simp) rfl (Nat.sub_self _).symm (by rw [if_pos rfl]) (H.out.below (below_drewN (below_alloc (below_alloc (Below.refl _ _) _) _) 1)) hb hk).mono ?_; rintro e w1 ⟨A1, c1', rfl, hown, hbel⟩; obtain ⟨hc1, hf1, hz1⟩ := olds hbel; have hw1 : Below w.heap.size w w1 := below_step (below_drewN (below_alloc (below_alloc (Below.refl _ _) _) _) 1) hbel; have q0 : w1.cell? ⟨w.heap.size, 0, none⟩ = some (.int .i64 0) := below_cell hbel (by go_simp); have q1 : w1.cell? ⟨w.heap.size, 1, none⟩ = some (.int .i64 0) := below_cell hbel (by go_simp); have q2 : w1.cell? ⟨w.heap.size, 2, none⟩ = some (.int .i64 0) := below_cell hbel (by go_simp); have k0 := below_cell hw1 c0; have k1 := below_cell hw1 c1; have k2 := below_cell hw1 c2; have HO := Lib.hid hown; have HB := Lib.hid hw1; clear hown hbel hw1)))
    all_goals go_wp2
    all_goals refine bodyPost_ret (v := .tuple #[.agg #[.int .i64 m.s, .int .i64 m.v, .int .i64 m.p], .slice A1 (xs.eraseIdx k).length c1', .bool true]) ?_ rfl ⟨A1, c1', rfl, ?_, ?_⟩
    all_goals clear s1 s2
    all_goals first
      | exact (((HO.out.far (by simp; omega) _).far (by simp; omega) _).far (by simp; omega) _).lower (by simp; omega)
      | exact below_set (below_set (below_set HB.out (by simp) _) (by simp) _) (by simp) _
      | (simp [results, Try.results25, go_sem, q0, q1, q2]; done)
  · have hck' : k + 1 < c := Nat.lt_of_le_of_ne (Nat.le_trans hk hle) (fun e => hck e.symm)
    go_enter Try.func25, Try.ntmps25
    go_wp2_with fail
    go_region_with (first | (go_at_call 28; go_must (refine (concat_rest b off c k _ (xs.length - (k + 1)) (c - (k + 1)) (some ⟨b, off + (k + 1) * 3, none⟩) xs _ (by go_simp) (by go_simp) rfl rfl (by rw [if_neg hck]; rfl) (H.out.below (below_drewN (below_alloc (below_alloc (Below.refl _ _) _) _) 1)) hb hk).mono ?_; rintro e w1 ⟨A1, c1', rfl, hown, hbel⟩; obtain ⟨hc1, hf1, hz1⟩ := olds hbel; have hw1 : Below w.heap.size w w1 := below_step (below_drewN (below_alloc (below_alloc (Below.refl _ _) _) _) 1) hbel; have q0 : w1.cell? ⟨w.heap.size, 0, none⟩ = some (.int .i64 0) := below_cell hbel (by go_simp); have q1 : w1.cell? ⟨w.heap.size, 1, none⟩ = some (.int .i64 0) := below_cell hbel (by go_simp); have q2 : w1.cell? ⟨w.heap.size, 2, none⟩ = some (.int .i64 0) := below_cell hbel (by go_simp); have k0 := below_cell hw1 c0; have k1 := below_cell hw1 c1; have k2 := below_cell hw1 c2; have HO := Lib.hid hown; have HB := Lib.hid hw1; clear hown hbel hw1)))
    all_goals go_wp2
    all_goals refine bodyPost_ret (v := .tuple #[.agg #[.int .i64 m.s, .int .i64 m.v, .int .i64 m.p], .slice A1 (xs.eraseIdx k).length c1', .bool true]) ?_ rfl ⟨A1, c1', rfl, ?_, ?_⟩
    all_goals clear s1 s2
    all_goals first
      | exact (((HO.out.far (by simp; omega) _).far (by simp; omega) _).far (by simp; omega) _).lower (by simp; omega)
      | exact below_set (below_set (below_set HB.out (by simp) _) (by simp) _) (by simp) _
      | (simp [results, Try.results25, go_sem, q0, q1, q2]; done)
end Go.Proofs.Ytkmmiiaadoinpaa.Mar
