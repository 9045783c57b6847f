/- Contracts of the outbox's exported functions, at a sku that is there. -/
import Derived.Test.YtgeocadpdpjmjaaOutC2
namespace Go.Proofs.Ytgeocadpdpjmjaa.Out
open Go.RowKit Go.Proofs.Ytgeocadpdpjmjaa.Mem


def IsB (w : World) (xs : List Outs) (n : Nat) (b : Bool) (r : Ending) (w' : World) : Prop := ∃ A c, r = .returned (.tuple #[.slice A n c, .bool b]) ∧ dO.Own 35 w' w.heap.size A c xs ∧ Below w.heap.size w w'
def IsE (w : World) (xs : List Outs) (n : Nat) (k : Int) (r : Ending) (w' : World) : Prop := ∃ A c, r = .returned (.tuple #[.slice A n c, .int .i64 k]) ∧ dO.Own 35 w' w.heap.size A c xs ∧ Below w.heap.size w w'
def IsS (w : World) (xs : List Outs) (n : Nat) (m : Mail) (b : Bool) (k : Int) (r : Ending) (w' : World) : Prop := ∃ A c, r = .returned (.tuple #[.slice A n c, .agg #[.int .i64 m.s, .int .i64 m.v, .int .i64 m.p], .bool b, .int .i64 k]) ∧ dO.Own 35 w' w.heap.size A c xs ∧ Below w.heap.size w w'
theorem app1 (a b : Value) : #[a] ++ #[b] = #[a, b] := rfl
theorem app2 (a b c : Value) : #[a] ++ #[b, c] = #[a, b, c] := rfl
theorem app0 (a : Value) : #[a] ++ (#[] : Array Value) = #[a] := rfl
theorem set_same {xs : List Outs} {k : Nat} {x : Outs} (hx : xs[k]? = some x) : xs.set k x = xs := by
  obtain ⟨hk, rfl⟩ := List.getElem?_eq_some_iff.1 hx
  exact List.set_getElem_self hk
/-- 'with' at a sku that is there, whatever the answers. -/
theorem with_any (A : Option Addr) (c k n : Nat) (xs : List Outs) (hn : xs.length = n) (x y : Outs) (b : Bool) (f2 f3 : Nat) (K2 K3 : Array Value) (w : World) (e2 : Ent f2) (e3 : Ent f3) (h : dO.At w A c xs) (hb : n * 40 ≤ 140737488355328) (hx : xs[k]? = some x)
    (hm : ∀ W, Below w.heap.size w W → Calls Try.prog f2 (#[x.val] ++ K2) W (Ret (.bool b) W))
    (hch : b = true → ∀ W, Below w.heap.size w W → Calls Try.prog f3 (#[x.val] ++ K3) W (Ret y.val W)) (hy : b = false → y = x) :
    Calls Try.prog 24 #[.slice A n c, .int .i64 k, .func (.func f2) #[] K2, .func (.func f3) #[] K3] w (IsB w (xs.set k y) n b) := by
  subst hn
  cases b
  · rw [hy rfl, set_same hx]
    exact with_no A c k xs x f2 f3 K2 K3 w e2 h hb hx hm
  · refine (with_yes A c k xs x y f2 f3 K2 K3 w e2 e3 h hb hx hm (hch rfl)).mono fun e w' ⟨A', c', he, ho, hbl⟩ => ⟨A', c', ?_, ho, hbl⟩
    rw [he, List.length_set]

theorem intend_any (A : Option Addr) (c k n : Nat) (xs : List Outs) (hn : xs.length = n) (x : Outs) (p now : Int) (w : World) (h : dO.At w A c xs) (hb : n * 40 ≤ 140737488355328) (hx : xs[k]? = some x) (h1 : 1 ≤ p) (h2 : p ≤ 1000000000000) (h3 : 0 ≤ x.v) (h4 : x.v ≤ 1000000) :
    Calls Try.prog 13 #[.slice A n c, .int .i64 k, .int .i64 p, .int .i64 now] w (IsE w (xs.set k (intendO x p now)) n 0) := by
  have HC := Lib.hid (fun W K2 K3 hA hm hch => with_any A c k n xs hn x (intendO x p now) true 28 29 K2 K3 W ent28 ent29 hA hb hx hm hch (fun e => by cases e))
  have H := Lib.hid h
  have hm1 := Lib.hid (fun W B hB => in1_yes x p B W hB h1 h2)
  have hm2 := Lib.hid (fun W B C hB hC => in2_any x p now B C W hB hC h3 h4)
  generalize intendO x p now = y at HC hm2 ⊢
  clear h hx hn h1 h2 h3 h4
  have q0 : Hid (At1 ((w.alloc (.cells #[.int .i64 p] 3)).alloc (.cells #[.int .i64 now] 3)) w.heap.size p) := by show World.cell? _ _ = _; go_simp
  have q1 : Hid (At1 ((w.alloc (.cells #[.int .i64 p] 3)).alloc (.cells #[.int .i64 now] 3)) (w.heap.size + 1) now) := by show World.cell? _ _ = _; go_simp
  have hbl : Hid (Below w.heap.size w ((w.alloc (.cells #[.int .i64 p] 3)).alloc (.cells #[.int .i64 now] 3))) := below_alloc (below_alloc (Below.refl _ _) _) _
  have HK := HC.out _ #[.pointer (some ⟨w.heap.size, 0, none⟩)] #[.pointer (some ⟨w.heap.size, 0, none⟩), .pointer (some ⟨w.heap.size + 1, 0, none⟩)] (H.out.below hbl.out) (fun W hW => by rw [app1]; exact hm1.out W _ (q0.out.below hW)) (fun _ W hW => by rw [app2]; exact hm2.out W _ _ (q0.out.below hW) (q1.out.below hW))
  have HK2 := Lib.hid HK
  clear HK
  go_enter Try.func13, Try.ntmps13
  go_wp2_with (go_at_call 24; refine HK2.out.mono ?_; rintro e w1 ⟨A1, c1, rfl, hown, hbel⟩; have HO := Lib.hid hown; have HB := Lib.hid hbel; clear hown hbel)
  go_ret2
  exact ⟨A1, c1, rfl, HO.out.lower hbl.out.size, below_step hbl.out HB.out⟩

theorem ack_any (A : Option Addr) (c k n : Nat) (xs : List Outs) (hn : xs.length = n) (x : Outs) (ver : Int) (b : Bool) (hb' : ackB x ver = b) (w : World) (h : dO.At w A c xs) (hb : n * 40 ≤ 140737488355328) (hx : xs[k]? = some x) :
    Calls Try.prog 15 #[.slice A n c, .int .i64 k, .int .i64 ver] w (IsB w (xs.set k (if b = true then stateO x 2 else x)) n b) := by
  have HC := Lib.hid (fun W K2 K3 hA hm hch => with_any A c k n xs hn x (if b = true then stateO x 2 else x) b 33 42 K2 K3 W ent33 ent42 hA hb hx hm hch (fun e => by rw [e]; rfl))
  have H := Lib.hid h
  have hm1 := Lib.hid (fun W B hB => ack1_any x ver B W hB b hb')
  have hm2 : Hid (b = true → ∀ W B, At1 W B 2 → Calls Try.prog 42 #[x.val, .pointer (some ⟨B, 0, none⟩)] W (Ret (if b = true then stateO x 2 else x).val W)) := fun e W B hB => by rw [if_pos e]; exact state1_any x 2 B W hB
  generalize (if b = true then stateO x 2 else x) = y at HC hm2 ⊢
  clear h hx hn hb'
  have q0 : Hid (At1 ((w.alloc (.cells #[.int .i64 ver] 3)).alloc (.cells #[.int .i64 2] 3)) w.heap.size ver) := by show World.cell? _ _ = _; go_simp
  have q1 : Hid (At1 ((w.alloc (.cells #[.int .i64 ver] 3)).alloc (.cells #[.int .i64 2] 3)) (w.heap.size + 1) 2) := by show World.cell? _ _ = _; go_simp
  have hbl : Hid (Below w.heap.size w ((w.alloc (.cells #[.int .i64 ver] 3)).alloc (.cells #[.int .i64 2] 3))) := below_alloc (below_alloc (Below.refl _ _) _) _
  have HK := HC.out _ #[.pointer (some ⟨w.heap.size, 0, none⟩)] #[.pointer (some ⟨w.heap.size + 1, 0, none⟩)] (H.out.below hbl.out) (fun W hW => by rw [app1]; exact hm1.out W _ (q0.out.below hW)) (fun e W hW => by rw [app1]; exact hm2.out e W _ (q1.out.below hW))
  have HK2 := Lib.hid HK
  clear HK
  go_enter Try.func15, Try.ntmps15
  go_wp2_with (first | (go_at_call 34; refine (state_any _ _).mono ?_; rintro e w0 ⟨rfl, rfl⟩) | (go_at_call 24; refine HK2.out.mono ?_; rintro e w1 ⟨A1, c1, rfl, hown, hbel⟩; have HO := Lib.hid hown; have HB := Lib.hid hbel; clear hown hbel))
  go_ret2
  exact ⟨A1, c1, rfl, HO.out.lower hbl.out.size, below_step hbl.out HB.out⟩
theorem rej_any (A : Option Addr) (c k n : Nat) (xs : List Outs) (hn : xs.length = n) (x : Outs) (ver : Int) (b : Bool) (hb' : rejB x ver = b) (w : World) (h : dO.At w A c xs) (hb : n * 40 ≤ 140737488355328) (hx : xs[k]? = some x) :
    Calls Try.prog 16 #[.slice A n c, .int .i64 k, .int .i64 ver] w (IsB w (xs.set k (if b = true then stateO x 3 else x)) n b) := by
  have HC := Lib.hid (fun W K2 K3 hA hm hch => with_any A c k n xs hn x (if b = true then stateO x 3 else x) b 35 42 K2 K3 W ent35 ent42 hA hb hx hm hch (fun e => by rw [e]; rfl))
  have H := Lib.hid h
  have hm1 := Lib.hid (fun W B hB => rej1_any x ver B W hB b hb')
  have hm2 : Hid (b = true → ∀ W B, At1 W B 3 → Calls Try.prog 42 #[x.val, .pointer (some ⟨B, 0, none⟩)] W (Ret (if b = true then stateO x 3 else x).val W)) := fun e W B hB => by rw [if_pos e]; exact state1_any x 3 B W hB
  generalize (if b = true then stateO x 3 else x) = y at HC hm2 ⊢
  clear h hx hn hb'
  have q0 : Hid (At1 ((w.alloc (.cells #[.int .i64 ver] 3)).alloc (.cells #[.int .i64 3] 3)) w.heap.size ver) := by show World.cell? _ _ = _; go_simp
  have q1 : Hid (At1 ((w.alloc (.cells #[.int .i64 ver] 3)).alloc (.cells #[.int .i64 3] 3)) (w.heap.size + 1) 3) := by show World.cell? _ _ = _; go_simp
  have hbl : Hid (Below w.heap.size w ((w.alloc (.cells #[.int .i64 ver] 3)).alloc (.cells #[.int .i64 3] 3))) := below_alloc (below_alloc (Below.refl _ _) _) _
  have HK := HC.out _ #[.pointer (some ⟨w.heap.size, 0, none⟩)] #[.pointer (some ⟨w.heap.size + 1, 0, none⟩)] (H.out.below hbl.out) (fun W hW => by rw [app1]; exact hm1.out W _ (q0.out.below hW)) (fun e W hW => by rw [app1]; exact hm2.out e W _ (q1.out.below hW))
  have HK2 := Lib.hid HK
  clear HK
  go_enter Try.func16, Try.ntmps16
  go_wp2_with (first | (go_at_call 34; refine (state_any _ _).mono ?_; rintro e w0 ⟨rfl, rfl⟩) | (go_at_call 24; refine HK2.out.mono ?_; rintro e w1 ⟨A1, c1, rfl, hown, hbel⟩; have HO := Lib.hid hown; have HB := Lib.hid hbel; clear hown hbel))
  go_ret2
  exact ⟨A1, c1, rfl, HO.out.lower hbl.out.size, below_step hbl.out HB.out⟩
theorem rev_any (A : Option Addr) (c k n : Nat) (xs : List Outs) (hn : xs.length = n) (x : Outs) (now : Int) (b : Bool) (hb' : decide (x.s = 3) = b) (w : World) (h : dO.At w A c xs) (hb : n * 40 ≤ 140737488355328) (hx : xs[k]? = some x) :
    Calls Try.prog 14 #[.slice A n c, .int .i64 k, .int .i64 now] w (IsB w (xs.set k (if b = true then reviveO x now else x)) n b) := by
  have HC := Lib.hid (fun W K2 K3 hA hm hch => with_any A c k n xs hn x (if b = true then reviveO x now else x) b 31 32 K2 K3 W ent31 ent32 hA hb hx hm hch (fun e => by rw [e]; rfl))
  have H := Lib.hid h
  have hm1 := Lib.hid (fun W => rev1_any x W b hb')
  have hm2 : Hid (b = true → ∀ W B, At1 W B now → Calls Try.prog 32 #[x.val, .pointer (some ⟨B, 0, none⟩)] W (Ret (if b = true then reviveO x now else x).val W)) := fun e W B hB => by rw [if_pos e]; exact rev2_any x now B W hB
  generalize (if b = true then reviveO x now else x) = y at HC hm2 ⊢
  clear h hx hn hb'
  have q0 : Hid (At1 (w.alloc (.cells #[.int .i64 now] 3)) w.heap.size now) := cell_new w _ _ _
  have hbl : Hid (Below w.heap.size w (w.alloc (.cells #[.int .i64 now] 3))) := below_alloc (Below.refl _ _) _
  have HK := HC.out _ #[] #[.pointer (some ⟨w.heap.size, 0, none⟩)] (H.out.below hbl.out) (fun W hW => by rw [app0]; exact hm1.out W) (fun e W hW => by rw [app1]; exact hm2.out e W _ (q0.out.below hW))
  have HK2 := Lib.hid HK
  clear HK
  go_enter Try.func14, Try.ntmps14
  go_wp2_with (go_at_call 24; refine HK2.out.mono ?_; rintro e w1 ⟨A1, c1, rfl, hown, hbel⟩; have HO := Lib.hid hown; have HB := Lib.hid hbel; clear hown hbel)
  go_ret2
  exact ⟨A1, c1, rfl, HO.out.lower hbl.out.size, below_step hbl.out HB.out⟩
end Go.Proofs.Ytgeocadpdpjmjaa.Out
