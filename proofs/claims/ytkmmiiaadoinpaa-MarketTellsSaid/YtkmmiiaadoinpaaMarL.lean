/- Contract of Mails. -/
import Derived.Test.YtkmmiiaadoinpaaMarJ
namespace Go.Proofs.Ytkmmiiaadoinpaa.Mar
open Go.RowKit Go.Proofs.Ytkmmiiaadoinpaa.Mem

def R64 (r : Mail) : Prop := (-9223372036854775808 ≤ r.s ∧ r.s ≤ 9223372036854775807) ∧ (-9223372036854775808 ≤ r.v ∧ r.v ≤ 9223372036854775807) ∧ (-9223372036854775808 ≤ r.p ∧ r.p ≤ 9223372036854775807)
def mailOf (r : Mail) : Mail := ⟨pickI r.s 3, pickI r.v 9, 1 + pickI r.p 900⟩
def mailsL (rs : List Mail) : List Mail := (rs.take 30).map mailOf
def mUp (rs : List Mail) (k : Nat) : List Mail := (rs.take k).map mailOf
theorem mUp_len (rs : List Mail) (k : Nat) (hk : k ≤ rs.length) : (mUp rs k).length = k := by unfold mUp; rw [List.length_map, List.length_take, Nat.min_eq_left hk]
theorem mUp_succ (rs : List Mail) (k : Nat) (x : Mail) (hx : rs[k]? = some x) : mUp rs (k + 1) = mUp rs k ++ [mailOf x] := by
  unfold mUp; rw [take_snoc rs k x hx, List.map_append]; rfl
theorem mUp_end (rs : List Mail) (k : Nat) (hk : k ≤ rs.length) (h30 : k ≤ 30) (h : ¬ (k < rs.length ∧ k < 30)) : mUp rs k = mailsL rs := by
  unfold mUp mailsL
  by_cases h1 : k < 30
  · rw [List.take_of_length_le (by omega), List.take_of_length_le (by omega)]
  · rw [show k = 30 by omega]

def Pick (a n r : Int) : Prop := (-9223372036854775808 ≤ a ∧ a ≤ 9223372036854775807) ∧ 0 < n ∧ pickI a n = r
theorem pick_of {a n r : Int} (W : World) (h : Pick a n r) : Calls Try.prog 14 #[.int .i64 a, .int .i64 n] W fun e w' => e = .returned (.int .i64 r) ∧ W = w' := by
  obtain ⟨h1, h2, rfl⟩ := h
  exact kp (pick_any a n W h1.1 h1.2 h2)

set_option maxRecDepth 100000 in
set_option maxHeartbeats 4000000 in
theorem mails_any (A : Option Addr) (c : Nat) (rs : List Mail) (w : World) (h : dM.At w A c rs) (hr : ∀ r ∈ rs, R64 r) :
    Calls Try.prog 10 #[.slice A rs.length c] w (Made dM 26 w (mailsL rs)) := by
  obtain ⟨i0, hi, iz, isz, iby⟩ := info_parts info26
  have H := Lib.hid h
  have hle := h.le
  have hmax := h.max
  have HR := Lib.hid hr
  clear h hr
  go_enter Try.func10, Try.ntmps10
  go_wp2
  go_loopw [3, 4] (fun v kk wr => ∃ (k : Nat) (A' : Option Addr) (c' : Nat), k ≤ rs.length ∧ k ≤ 30 ∧ kk = .int .i64 k ∧ v = .slice A' k c' ∧ Hid (dM.Own 26 wr w.heap.size A' c' (mUp rs k)) ∧ Hid (Below w.heap.size w wr)) (fun _ kk _ => 30 - (intOf kk).toNat)
  case atStart => exact ⟨0, none, 0, Nat.zero_le _, Nat.zero_le _, rfl, rfl, En.Own.none_ _ _ _, Below.refl _ _⟩
  case round =>
    obtain ⟨k, A', c', hk, h30, rfl, rfl, HO, HB⟩ := hrel
    by_cases hlt : k < rs.length ∧ k < 30
    · obtain ⟨hl1, hl2⟩ := hlt
      have g1 : decide ((k : Int) < 30) = true := decide_eq_true (by omega)
      have hx : rs[k]? = some rs[k] := List.getElem?_eq_getElem hl1
      obtain ⟨b, off, rfl, hb0, c0', c1', c2'⟩ := at_getM H.out k _ hx
      have c0 := below_cell HB.out c0'
      have c1 := below_cell HB.out c1'
      have c2 := below_cell HB.out c2'
      clear c0' c1' c2'
      have hsz := HB.out.size
      have hbl : b < wr.heap.size := by omega
      have hg := HR.out _ (List.getElem_mem hl1)
      generalize rs[k] = x at c0 c1 c2 hx hg
      obtain ⟨b0, b1, b2⟩ := hg
      have P0 : Pick x.s 3 (pickI x.s 3) := ⟨b0, by omega, rfl⟩
      have P1 : Pick x.v 9 (pickI x.v 9) := ⟨b1, by omega, rfl⟩
      have P2 : Pick x.p 900 (pickI x.p 900) := ⟨b2, by omega, rfl⟩
      have d2 := pick_bd x.p 900 (by omega)
      have hx2 := Lib.hid (mUp_succ rs k x hx)
      have hlen := Lib.hid (mUp_len rs k hk)
      have e0 : mailOf x = ⟨pickI x.s 3, pickI x.v 9, 1 + pickI x.p 900⟩ := rfl
      have E0 := Lib.hid e0
      generalize mailOf x = y at hx2 E0
      generalize mUp rs k = ys at HO hx2 hlen
      generalize pickI x.s 3 = y0 at P0 E0
      generalize pickI x.v 9 = y1 at P1 E0
      generalize pickI x.p 900 = y2 at P2 E0 d2
      have hw : IntKind.i64.wrap (1 + y2) = 1 + y2 := by rw [IntKind.wrap_i64]; omega
      clear hx e0 b0 b1 b2
      have hcc := And.intro c0 (And.intro c1 c2)
      have hown := Lib.hid (HO.out.row)
      have hnb : Hid ((some b : Option Nat) ≠ (Value.slice A' ys.length c').ownBlock) := fun e => absurd (hown.out b e.symm).1 (by omega)
      go_wp2_with fail
      go_region_held3 (fun w' => w'.cell? ⟨b, off + k * 3, none⟩ = some (.int .i64 x.s) ∧ w'.cell? ⟨b, off + k * 3 + 1, none⟩ = some (.int .i64 x.v) ∧ w'.cell? ⟨b, off + k * 3 + 2, none⟩ = some (.int .i64 x.p))
        (first
          | exact grown3 hg hnb.out hnb.out hnb.out (by assumption)
          | go_keep)
        (first
          | (go_at_call 14; refine (pick_of _ (by assumption)).mono ?_; rintro e w' ⟨rfl, rfl⟩)
          | (refine step_app dM _ (by rfl) _ _ _ (by rfl) w.heap.size 26 i0 _ 24 Try.underlying23 hi iz isz iby rfl A' c' _ ys (by rfl) hlen.out.symm ?_ _ _ _ [⟨y0, y1, 1 + y2⟩] (by rfl) rfl ?_ ?_ ?_ ?_ ?_; (refine HO.out.below ?_; (repeat (first | exact Below.refl _ _ | refine below_alloc ?_ _ | refine below_drew ?_ | refine below_drewN ?_ _))); (refine at_one ?_ ?_ ?_ <;> (go_simp; done)); (have h9 := hlen.out; simp; omega); (have h9 := hlen.out; simp; omega); (have h9 := HB.out.size; simp; omega); intro A2 c2 w2 hown hg hat; have HO' := Lib.hid hown; have HG := Lib.hid hg; clear hown))
      all_goals go_wp2
      all_goals go_roundw
      case rel =>
        exact ⟨k + 1, A2, c2, by omega, by omega, by go_num, slc (by rw [hlen.out]), by rw [hx2.out, E0.out]; exact HO'.out, below_grown (by (repeat (first | exact HB.out | refine below_alloc ?_ _ | refine below_drew ?_ | refine below_drewN ?_ _))) HG.out (fun q hq => (hown.out q hq).1)⟩
      case measure => simp [intOf]; omega
    · have hend := mUp_end rs k hk h30 hlt
      have hlen := mUp_len rs k hk
      by_cases hl1 : k < rs.length
      · have g1 : decide ((k : Int) < 30) = false := decide_eq_false (by omega)
        go_wp2
        go_ret
        exact ⟨A', c', congrArg Ending.returned (slc (by rw [← hend, hlen])), by rw [← hend]; exact HO.out, HB.out⟩
      · go_wp2
        go_ret
        exact ⟨A', c', congrArg Ending.returned (slc (by rw [← hend, hlen])), by rw [← hend]; exact HO.out, HB.out⟩
end Go.Proofs.Ytkmmiiaadoinpaa.Mar
