/- Contracts of Send and Due. -/
import Derived.Test.YtgeocadpdpjmjaaOutD
namespace Go.Proofs.Ytgeocadpdpjmjaa.Out
open Go.RowKit Go.Proofs.Ytgeocadpdpjmjaa.Mem

def sendX (x : Outs) (now : Int) : Outs := if dueB x now = true then sendO x now else x
def sendIs (x : Outs) (now : Int) : Bool := dueB x now && decide (x.t ≤ 4)
def sendM (k : Nat) (x : Outs) (now : Int) : Mail := if sendIs x now = true then ⟨k, x.v, x.p⟩ else ⟨0, 0, 0⟩
def sendE (x : Outs) (now : Int) : Int := if dueB x now = true then 0 else 1

theorem send_any (A : Option Addr) (c k n : Nat) (xs : List Outs) (hn : xs.length = n) (x : Outs) (now : Int) (w : World) (h : dO.At w A c xs) (hb : n * 40 ≤ 140737488355328) (hx : xs[k]? = some x) (ht : 0 ≤ x.t) :
    Calls Try.prog 12 #[.slice A n c, .int .i64 k, .int .i64 now] w (IsS w (xs.set k (sendX x now)) n (sendM k x now) (sendIs x now) (sendE x now)) := by
  have H := Lib.hid h
  have hkn : k < n := by rw [← hn]; exact (List.getElem?_eq_some_iff.1 hx).1
  have hget : ∀ y : Outs, (xs.set k y)[k]? = some y := fun y => List.getElem?_set_self (by omega)
  obtain ⟨b, hb'⟩ : ∃ b, dueB x now = b := ⟨_, rfl⟩
  obtain ⟨y, hy⟩ : ∃ y, sendX x now = y := ⟨_, rfl⟩
  have HC := Lib.hid (fun W K2 K3 hA hm hch => with_any A c k n xs hn x y b 25 26 K2 K3 W ent25 ent26 hA hb hx hm hch (fun e => by rw [← hy]; unfold sendX; rw [hb', e]; rfl))
  have hm1 := Lib.hid (fun W B hB => send1_any x now B W hB b hb')
  have hm2 : Hid (b = true → ∀ W B, At1 W B now → Calls Try.prog 26 #[x.val, .pointer (some ⟨B, 0, none⟩)] W (Ret y.val W)) := fun e W B hB => send2_any x now B W hB ht y (by rw [← hy]; unfold sendX; rw [hb', if_pos e])
  have hgy := Lib.hid (hget y)
  have q0 : Hid (At1 ((w.alloc (.cells #[.int .i64 now] 3)).alloc (.cells #[.int .i64 0, .int .i64 0, .int .i64 0] 30)) w.heap.size now) := by show World.cell? _ _ = _; go_simp
  have hbl : Hid (Below w.heap.size w ((w.alloc (.cells #[.int .i64 now] 3)).alloc (.cells #[.int .i64 0, .int .i64 0, .int .i64 0] 30))) := below_alloc (below_alloc (Below.refl _ _) _) _
  have HK := HC.out _ #[.pointer (some ⟨w.heap.size, 0, none⟩)] #[.pointer (some ⟨w.heap.size, 0, none⟩)] (H.out.below hbl.out) (fun W hW => by rw [app1]; exact hm1.out W _ (q0.out.below hW)) (fun e W hW => by rw [app1]; exact hm2.out e W _ (q0.out.below hW))
  have HK2 := Lib.hid HK
  clear HK hget hx
  rw [hy]
  cases b with
  | false =>
    have e1 : sendIs x now = false := by unfold sendIs; rw [hb']; rfl
    have e2 : sendM k x now = ⟨0, 0, 0⟩ := by unfold sendM; rw [e1]; rfl
    have e3 : sendE x now = 1 := by unfold sendE; rw [hb']; rfl
    rw [e1, e2, e3]
    clear e1 e2 e3 hb' hy HC hm1 hm2 hn h
    go_enter Try.func12, Try.ntmps12
    go_wp2_with (go_at_call 24; refine HK2.out.mono ?_; rintro e w1 ⟨A1, c1, rfl, hown, hbel⟩; obtain ⟨hc1, hf1, hz1⟩ := olds hbel; have HO := Lib.hid hown; have HB := Lib.hid hbel; clear hown hbel)
    refine bodyPost_ret (v := .tuple #[.slice A1 n c1, .agg #[.int .i64 0, .int .i64 0, .int .i64 0], .bool false, .int .i64 1]) (by simp [results, Try.results12, go_sem, hc1]) rfl ⟨A1, c1, rfl, ?_, ?_⟩
    · exact (((HO.out.far (by simp) _).far (by simp) _).far (by simp) _).lower hbl.out.size
    · exact below_set (below_set (below_set (below_step hbl.out HB.out) (by simp) _) (by simp) _) (by simp) _
  | true =>
    by_cases h5 : 5 ≤ x.t
    · have e1 : sendIs x now = false := by unfold sendIs; rw [hb', decide_eq_false (by omega)]; rfl
      have e2 : sendM k x now = ⟨0, 0, 0⟩ := by unfold sendM; rw [e1]; rfl
      have e3 : sendE x now = 0 := by unfold sendE; rw [hb']; rfl
      have e4 : y.s = 3 := by rw [← hy]; unfold sendX; rw [if_pos hb']; unfold sendO; rw [if_pos h5]
      rw [e1, e2, e3]
      clear e1 e2 e3 hb' hy HC hm1 hm2 hn h
      have E4 := Lib.hid e4
      clear e4
      go_enter Try.func12, Try.ntmps12
      go_wp2_with (go_at_call 24; refine HK2.out.mono ?_; rintro e w1 ⟨A1, c1, rfl, hown, hbel⟩; obtain ⟨hc1, hf1, hz1⟩ := olds hbel; obtain ⟨g, rfl, hge, hlt, r0, r1, r2, r3, r4⟩ := own_getO hown k y hgy.out; rw [E4.out] at r4; have HO := Lib.hid hown; have HB := Lib.hid hbel; clear hown hbel)
      refine bodyPost_ret (v := .tuple #[.slice (some ⟨g, 0, none⟩) n c1, .agg #[.int .i64 0, .int .i64 0, .int .i64 0], .bool false, .int .i64 0]) (by simp [results, Try.results12, go_sem, hc1]) rfl ⟨some ⟨g, 0, none⟩, c1, rfl, ?_, ?_⟩
      · exact (((HO.out.far (by simp) _).far (by simp) _).far (by simp) _).lower hbl.out.size
      · exact below_set (below_set (below_set (below_step hbl.out HB.out) (by simp) _) (by simp) _) (by simp) _
    · have e1 : sendIs x now = true := by unfold sendIs; rw [hb', decide_eq_true (by omega)]; rfl
      have e2 : sendM k x now = ⟨k, y.v, y.p⟩ := by unfold sendM; rw [if_pos e1, ← hy]; unfold sendX; rw [if_pos hb']; unfold sendO; rw [if_neg h5]
      have e3 : sendE x now = 0 := by unfold sendE; rw [hb']; rfl
      have e4 : y.s = 1 := by
        have := of_decide_eq_true hb'
        rw [← hy]; unfold sendX; rw [if_pos hb']; unfold sendO; rw [if_neg h5]; exact this.1
      rw [e1, e2, e3]
      clear e1 e2 e3 hb' hy HC hm1 hm2 hn h
      have E4 := Lib.hid e4
      clear e4
      go_enter Try.func12, Try.ntmps12
      go_wp2_with (go_at_call 24; refine HK2.out.mono ?_; rintro e w1 ⟨A1, c1, rfl, hown, hbel⟩; obtain ⟨hc1, hf1, hz1⟩ := olds hbel; obtain ⟨g, rfl, hge, hlt, r0, r1, r2, r3, r4⟩ := own_getO hown k y hgy.out; rw [E4.out] at r4; have HO := Lib.hid hown; have HB := Lib.hid hbel; clear hown hbel)
      have hne : g ≠ w.heap.size + 1 := by simp at hge; omega
      have hne2 : w.heap.size + 1 ≠ g := by simp at hge; omega
      go_region
      go_wp2
      refine bodyPost_ret (v := .tuple #[.slice (some ⟨g, 0, none⟩) n c1, .agg #[.int .i64 k, .int .i64 y.v, .int .i64 y.p], .bool true, .int .i64 0]) (by simp [results, Try.results12, go_sem, hc1]) rfl ⟨some ⟨g, 0, none⟩, c1, rfl, ?_, ?_⟩
      · exact (((HO.out.far (by simp) _).far (by simp) _).far (by simp) _).lower hbl.out.size
      · exact below_set (below_set (below_set (below_drewN (below_step hbl.out HB.out) 1) (by simp) _) (by simp) _) (by simp) _
end Go.Proofs.Ytgeocadpdpjmjaa.Out
