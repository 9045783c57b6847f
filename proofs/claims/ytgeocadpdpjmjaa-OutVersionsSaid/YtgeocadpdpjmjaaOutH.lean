/- Contract of Box: four outs, each fine. -/
import Derived.Test.YtgeocadpdpjmjaaOutG
namespace Go.Proofs.Ytgeocadpdpjmjaa.Out
open Go.RowKit Go.Proofs.Ytgeocadpdpjmjaa.Mem

structure Raw where
  a : Int
  b : Int
  c : Int
  d : Int
def dR : En Raw := ⟨fun m => [.int .i64 m.a, .int .i64 m.b, .int .i64 m.c, .int .i64 m.d], 4, by omega, fun _ => rfl, fun x u hu => by simp at hu; rcases hu with rfl | rfl | rfl | rfl <;> rfl⟩
def I64 (n : Int) : Prop := -9223372036854775808 ≤ n ∧ n ≤ 9223372036854775807
def R64 (r : Raw) : Prop := I64 r.a ∧ I64 r.b ∧ I64 r.c ∧ I64 r.d
theorem at_getR {w : World} {A : Option Addr} {c : Nat} {xs : List Raw} (h : dR.At w A c xs) (k : Nat) (x : Raw) (hx : xs[k]? = some x) :
    ∃ b off, A = some ⟨b, off, none⟩ ∧ b < w.heap.size ∧ w.cell? ⟨b, off + k * 4, none⟩ = some (.int .i64 x.a) ∧ w.cell? ⟨b, off + k * 4 + 1, none⟩ = some (.int .i64 x.b) ∧ w.cell? ⟨b, off + k * 4 + 2, none⟩ = some (.int .i64 x.c) ∧ w.cell? ⟨b, off + k * 4 + 3, none⟩ = some (.int .i64 x.d) := by
  obtain ⟨b, off, hA, hlt, hc⟩ := h.get k x hx
  exact ⟨b, off, hA, hlt, hc 0 (by decide), hc 1 (by decide), hc 2 (by decide), hc 3 (by decide)⟩

/-- An out as the box has it behind N steps. -/
def FineN (N : Int) (x : Outs) : Prop := (0 ≤ x.v ∧ x.v ≤ N) ∧ (0 ≤ x.t ∧ x.t ≤ 5) ∧ (0 ≤ x.n ∧ x.n ≤ 1099511627776) ∧ (x.s = 0 ∨ x.s = 1 ∨ x.s = 2 ∨ x.s = 3)
def GoodN (N : Int) (L : List Outs) : Prop := L.length = 4 ∧ ∀ x ∈ L, FineN N x
theorem FineN.mono {N M : Int} {x : Outs} (h : FineN N x) (hm : N ≤ M) : FineN M x := ⟨⟨h.1.1, by have := h.1.2; omega⟩, h.2⟩
theorem laterI_bd (a b : Int) : 0 ≤ laterI a b ∧ laterI a b ≤ 1099511627776 := by
  have := tickI_bd a
  have := tickI_bd b
  unfold laterI; split <;> omega
theorem fine_intend {N : Int} {x : Outs} (h : FineN N x) (p now : Int) : FineN (N + 1) (intendO x p now) := by
  obtain ⟨⟨h1, h2⟩, h3, h4, h5⟩ := h
  have := tickI_bd now
  exact ⟨⟨by show 0 ≤ x.v + 1; omega, by show x.v + 1 ≤ N + 1; omega⟩, ⟨by show (0 : Int) ≤ 0; omega, by show (0 : Int) ≤ 5; omega⟩, this, .inr (.inl rfl)⟩
theorem fine_send {N : Int} {x : Outs} (h : FineN N x) (now : Int) : FineN N (sendX x now) := by
  obtain ⟨h1, h3, h4, h5⟩ := h
  unfold sendX
  split
  · unfold sendO
    split
    · exact ⟨h1, h3, h4, .inr (.inr (.inr rfl))⟩
    · exact ⟨h1, ⟨by show 0 ≤ x.t + 1; omega, by show x.t + 1 ≤ 5; omega⟩, laterI_bd _ _, h5⟩
  · exact ⟨h1, h3, h4, h5⟩
theorem fine_state {N : Int} {x : Outs} (h : FineN N x) (b : Bool) (s : Int) (hs : s = 2 ∨ s = 3) : FineN N (if b = true then stateO x s else x) := by
  split
  · exact ⟨h.1, h.2.1, h.2.2.1, by rcases hs with hs | hs <;> (show s = 0 ∨ s = 1 ∨ s = 2 ∨ s = 3; omega)⟩
  · exact h
theorem fine_revive {N : Int} {x : Outs} (h : FineN N x) (b : Bool) (now : Int) : FineN N (if b = true then reviveO x now else x) := by
  split
  · exact ⟨h.1, ⟨by show (0 : Int) ≤ 0; omega, by show (0 : Int) ≤ 5; omega⟩, tickI_bd now, .inr (.inl rfl)⟩
  · exact h
theorem good_set {N M : Int} {L : List Outs} (h : GoodN N L) (hm : N ≤ M) {k : Nat} {y : Outs} (hy : FineN M y) : GoodN M (L.set k y) :=
  ⟨by rw [List.length_set]; exact h.1, fun x hx => by
    rcases List.mem_or_eq_of_mem_set hx with hx | hx
    · exact (h.2 x hx).mono hm
    · rw [hx]; exact hy⟩
def Z : Outs := ⟨0, 0, 0, 0, 0⟩
theorem good_zero : GoodN 0 [Z, Z, Z, Z] := ⟨rfl, fun x hx => by
  have : x = Z := by simpa using hx
  subst this
  exact ⟨⟨by decide, by decide⟩, ⟨by decide, by decide⟩, ⟨by decide, by decide⟩, .inl rfl⟩⟩
theorem mkO (n : Nat) (hn : n ≤ 1000) (cs : Array Value) (hcs : madeCells (Value.agg #[.int .i64 0, .int .i64 0, .int .i64 0, .int .i64 0, .int .i64 0]).cells (n * 5) = cs) (w : World) : (Instr.makeSlice 24 (.int .i64 n) (.int .i64 n)).run Try.prog w = .ok (.slice (some ⟨w.heap.size, 0, none⟩) n n) (w.alloc (.cells cs 35)) := by
  obtain ⟨i0, hi, iz, isz, iby⟩ := info_parts info35
  have hr := run_make (P := Try.prog) w 24 35 i0 _ Try.underlying24 hi iz .i64 .i64 n n (by omega) (by omega) (by rw [iby]; omega) (by omega)
  simp only [Int.toNat_natCast] at hr
  rw [isz, hcs] at hr
  exact hr
def z4 : Array Value := #[.int .i64 0, .int .i64 0, .int .i64 0, .int .i64 0, .int .i64 0, .int .i64 0, .int .i64 0, .int .i64 0, .int .i64 0, .int .i64 0, .int .i64 0, .int .i64 0, .int .i64 0, .int .i64 0, .int .i64 0, .int .i64 0, .int .i64 0, .int .i64 0, .int .i64 0, .int .i64 0]
theorem mk4 (w : World) : (Instr.makeSlice 24 (.int .i64 4) (.int .i64 4)).run Try.prog w = .ok (.slice (some ⟨w.heap.size, 0, none⟩) 4 4) (w.alloc (.cells z4 35)) := mkO 4 (by decide) _ (by kernel_rfl) w
theorem litz4 (w : World) : dO.Own 35 (w.alloc (.cells z4 35)) w.heap.size (some ⟨w.heap.size, 0, none⟩) 4 [Z, Z, Z, Z] :=
  En.Own.lit dO w w.heap.size 35 z4 [Z, Z, Z, Z] (Nat.le_refl _) (by decide) rfl

def IsBox (w : World) (r : Ending) (w' : World) : Prop := ∃ A c L, r = .returned (.slice A 4 c) ∧ dO.Own 35 w' w.heap.size A c L ∧ GoodN 30 L ∧ Below w.heap.size w w'
set_option maxRecDepth 100000 in
set_option maxHeartbeats 4000000 in
theorem box_any (A : Option Addr) (c : Nat) (rs : List Raw) (w : World) (h : dR.At w A c rs) (hr : ∀ r ∈ rs, R64 r) :
    Calls Try.prog 9 #[.slice A rs.length c] w (IsBox w) := by
  have H := Lib.hid h
  have hle := h.le
  have hmax := h.max
  have HR := Lib.hid hr
  clear h hr
  have hmk := mk4
  go_enter Try.func9, Try.ntmps9
  go_wp2
  go_loopw [3, 4] (fun v kk wr => ∃ (i : Nat) (A' : Option Addr) (c' : Nat) (L : List Outs), i ≤ rs.length ∧ i ≤ 30 ∧ kk = .int .i64 i ∧ v = .slice A' 4 c' ∧ Hid (dO.Own 35 wr w.heap.size A' c' L) ∧ Hid (GoodN i L) ∧ Hid (Below w.heap.size w wr)) (fun _ kk _ => 30 - (intOf kk).toNat)
  case atStart => exact ⟨0, _, _, [Z, Z, Z, Z], Nat.zero_le _, Nat.zero_le _, rfl, rfl, litz4 w, good_zero, below_alloc (Below.refl _ _) _⟩
  case round =>
    obtain ⟨i, A', c', L, hk, h30, rfl, rfl, HO, HG, HB⟩ := hrel
    clear hmk
    by_cases hlt : i < rs.length ∧ i < 30
    · obtain ⟨hl1, hl2⟩ := hlt
      have g1 : decide ((i : Int) < 30) = true := decide_eq_true (by omega)
      have hx : rs[i]? = some rs[i] := List.getElem?_eq_getElem hl1
      obtain ⟨b, off, rfl, hb0, c0', c1', c2', c3'⟩ := at_getR H.out i _ hx
      have c0 := below_cell HB.out c0'
      have c1 := below_cell HB.out c1'
      have c2 := below_cell HB.out c2'
      have c3 := below_cell HB.out c3'
      clear c0' c1' c2' c3'
      have hsz := HB.out.size
      have hbl : b < wr.heap.size := by omega
      have hg := HR.out _ (List.getElem_mem hl1)
      generalize rs[i] = x at c0 c1 c2 c3 hx hg
      clear hx
      obtain ⟨b0, b1, b2, b3⟩ := hg
      have P0 : Pick x.a 7 (pickI x.a 7) := ⟨b0, by omega, rfl⟩
      have P1 : Pick x.b 4 (pickI x.b 4) := ⟨b1, by omega, rfl⟩
      have P2 : Pick x.c 900 (pickI x.c 900) := ⟨b2, by omega, rfl⟩
      have P3 : Pick x.d 40 (pickI x.d 40) := ⟨b3, by omega, rfl⟩
      have P4 : Pick x.d 2 (pickI x.d 2) := ⟨b3, by omega, rfl⟩
      have d0 := pick_bd x.a 7 (by omega)
      have d1 := pick_bd x.b 4 (by omega)
      have d2 := pick_bd x.c 900 (by omega)
      have d3 := pick_bd x.d 40 (by omega)
      have d4 := pick_bd x.d 2 (by omega)
      generalize pickI x.a 7 = y0 at P0 d0
      generalize pickI x.b 4 = y1 at P1 d1
      generalize pickI x.c 900 = y2 at P2 d2
      generalize pickI x.d 40 = y3 at P3 d3
      generalize pickI x.d 2 = y4 at P4 d4
      clear b0 b1 b2 b3
      obtain ⟨s, rfl⟩ : ∃ s : Nat, y1 = s := ⟨y1.toNat, by omega⟩
      have hs4 : s < 4 := by omega
      have hLs : L[s]? = some (L[s]'(by have := HG.out.1; omega)) := List.getElem?_eq_getElem _
      have hF := HG.out.2 _ (List.getElem_mem (l := L) (n := s) (by have := HG.out.1; omega))
      generalize L[s]'(by have := HG.out.1; omega) = z at hLs hF
      have HF := Lib.hid hF
      have HZ := Lib.hid hLs
      clear hF hLs
      have hw2 : IntKind.i64.wrap (1 + y2) = 1 + y2 := IntWalk.i64_in _ (by omega)
      have hw3 : IntKind.i64.wrap ((i : Int) + y3) = (i : Int) + y3 := IntWalk.i64_in _ (by omega)
      have hgs : (i : Int) ≤ ((i + 1 : Nat) : Int) := by omega
      have hsu : ((i + 1 : Nat) : Int) = (i : Int) + 1 := by omega
      have HSU := Lib.hid hsu
      clear hsu
      have hc : y0 = 0 ∨ y0 = 1 ∨ y0 = 2 ∨ y0 = 3 ∨ y0 = 4 ∨ y0 = 5 ∨ y0 = 6 := by omega
      clear d0
      rcases hc with rfl | rfl | rfl | rfl | rfl | rfl | rfl
      · have C := Lib.hid (rintend_any A' c' s 4 L HG.out.1 z (1 + y2) i wr HO.out.at_ (by omega) HZ.out (by omega) (by omega) HF.out.1.1 (by have := HF.out.1.2; omega))
        go_wp2_with (first | (go_at_call 10; refine (pick_of _ (by assumption)).mono ?_; rintro e w' ⟨rfl, rfl⟩) | (go_at_call 18; refine C.out.mono ?_; rintro e w2 ⟨A2, c2, rfl, hown, hbel⟩; have HO2 := Lib.hid hown; have HB2 := Lib.hid hbel; clear hown hbel))
        all_goals go_roundw
        case rel => exact ⟨i + 1, A2, c2, _, by omega, by omega, by go_num, rfl, HO2.out.lower HB.out.size, good_set HG.out hgs (by rw [HSU.out]; exact fine_intend HF.out _ _), below_step HB.out HB2.out⟩
        case measure => simp [intOf]; omega
      · have C := Lib.hid (rintend_any A' c' s 4 L HG.out.1 z (1 + y2) i wr HO.out.at_ (by omega) HZ.out (by omega) (by omega) HF.out.1.1 (by have := HF.out.1.2; omega))
        go_wp2_with (first | (go_at_call 10; refine (pick_of _ (by assumption)).mono ?_; rintro e w' ⟨rfl, rfl⟩) | (go_at_call 18; refine C.out.mono ?_; rintro e w2 ⟨A2, c2, rfl, hown, hbel⟩; have HO2 := Lib.hid hown; have HB2 := Lib.hid hbel; clear hown hbel))
        all_goals go_roundw
        case rel => exact ⟨i + 1, A2, c2, _, by omega, by omega, by go_num, rfl, HO2.out.lower HB.out.size, good_set HG.out hgs (by rw [HSU.out]; exact fine_intend HF.out _ _), below_step HB.out HB2.out⟩
        case measure => simp [intOf]; omega
      · have C := Lib.hid (rsend_any A' c' s 4 L HG.out.1 z ((i : Int) + y3) wr HO.out.at_ (by omega) HZ.out HF.out.2.1.1)
        generalize sendM s z ((i : Int) + y3) = m1 at C
        generalize sendIs z ((i : Int) + y3) = m2 at C
        generalize sendE z ((i : Int) + y3) = m3 at C
        go_wp2_with (first | (go_at_call 10; refine (pick_of _ (by assumption)).mono ?_; rintro e w' ⟨rfl, rfl⟩) | (go_at_call 19; refine C.out.mono ?_; rintro e w2 ⟨A2, c2, rfl, hown, hbel⟩; have HO2 := Lib.hid hown; have HB2 := Lib.hid hbel; clear hown hbel))
        all_goals go_roundw
        case rel => exact ⟨i + 1, A2, c2, _, by omega, by omega, by go_num, rfl, HO2.out.lower HB.out.size, good_set HG.out hgs ((fine_send HF.out _).mono hgs), below_step HB.out HB2.out⟩
        case measure => simp [intOf]; omega
      · have C := Lib.hid (rsend_any A' c' s 4 L HG.out.1 z ((i : Int) + y3) wr HO.out.at_ (by omega) HZ.out HF.out.2.1.1)
        generalize sendM s z ((i : Int) + y3) = m1 at C
        generalize sendIs z ((i : Int) + y3) = m2 at C
        generalize sendE z ((i : Int) + y3) = m3 at C
        go_wp2_with (first | (go_at_call 10; refine (pick_of _ (by assumption)).mono ?_; rintro e w' ⟨rfl, rfl⟩) | (go_at_call 19; refine C.out.mono ?_; rintro e w2 ⟨A2, c2, rfl, hown, hbel⟩; have HO2 := Lib.hid hown; have HB2 := Lib.hid hbel; clear hown hbel))
        all_goals go_roundw
        case rel => exact ⟨i + 1, A2, c2, _, by omega, by omega, by go_num, rfl, HO2.out.lower HB.out.size, good_set HG.out hgs ((fine_send HF.out _).mono hgs), below_step HB.out HB2.out⟩
        case measure => simp [intOf]; omega
      · obtain ⟨g, rfl, hge, hlt', r0, r1, r2, r3, r4⟩ := own_getO HO.out s z HZ.out
        have hwv : IntKind.i64.wrap (z.v - y4) = z.v - y4 := IntWalk.i64_in _ (by have := HF.out.1; omega)
        have C := Lib.hid (fun W hW => rack_any (some ⟨g, 0, none⟩) c' s 4 L HG.out.1 z (z.v - y4) _ rfl W hW (by omega) HZ.out)
        generalize ackB z (z.v - y4) = bb at C
        go_wp2_with (first | (go_at_call 10; refine (pick_of _ (by assumption)).mono ?_; rintro e w' ⟨rfl, rfl⟩))
        have hq0 : wr.cell? ⟨b, off + i * 4 + 3, none⟩ = some (.int .i64 x.d) ∧ wr.cell? ⟨g, s * 5, none⟩ = some (.int .i64 z.v) := ⟨c3, r0⟩
        go_region_held3 (fun w' => w'.cell? ⟨b, off + i * 4 + 3, none⟩ = some (.int .i64 x.d) ∧ w'.cell? ⟨g, s * 5, none⟩ = some (.int .i64 z.v)) (first | exact hq | go_keep) (first
          | (go_at_call 10; refine (pick_of _ (by assumption)).mono ?_; rintro e w' ⟨rfl, rfl⟩)
          | (go_at_call 20; go_must (refine (C.out _ ?_).mono ?_; (refine HO.out.at_.below ?_; (repeat (first | exact Below.refl _ _ | refine below_alloc ?_ _ | refine below_drew ?_ | refine below_drewN ?_ _))); rintro e w2 ⟨A2, c2, rfl, hown, hbel⟩; have hq : w2.cell? ⟨b, off + i * 4 + 3, none⟩ = some (.int .i64 x.d) ∧ w2.cell? ⟨g, s * 5, none⟩ = some (.int .i64 z.v) := ⟨below_cell hbel c3, below_cell hbel r0⟩; have HO2 := Lib.hid hown; have HB2 := Lib.hid hbel; clear hown hbel)))
        all_goals go_wp2
        all_goals go_roundw
        case rel => exact ⟨i + 1, A2, c2, _, by omega, by omega, by go_num, rfl, HO2.out.lower HB.out.size, good_set HG.out hgs ((fine_state HF.out _ 2 (by omega)).mono hgs), below_step (below_drewN HB.out 1) HB2.out⟩
        case measure => simp [intOf]; omega
      · obtain ⟨g, rfl, hge, hlt', r0, r1, r2, r3, r4⟩ := own_getO HO.out s z HZ.out
        have hwv : IntKind.i64.wrap (z.v - y4) = z.v - y4 := IntWalk.i64_in _ (by have := HF.out.1; omega)
        have C := Lib.hid (fun W hW => rrej_any (some ⟨g, 0, none⟩) c' s 4 L HG.out.1 z (z.v - y4) _ rfl W hW (by omega) HZ.out)
        generalize rejB z (z.v - y4) = bb at C
        go_wp2_with (first | (go_at_call 10; refine (pick_of _ (by assumption)).mono ?_; rintro e w' ⟨rfl, rfl⟩))
        have hq0 : wr.cell? ⟨b, off + i * 4 + 3, none⟩ = some (.int .i64 x.d) ∧ wr.cell? ⟨g, s * 5, none⟩ = some (.int .i64 z.v) := ⟨c3, r0⟩
        go_region_held3 (fun w' => w'.cell? ⟨b, off + i * 4 + 3, none⟩ = some (.int .i64 x.d) ∧ w'.cell? ⟨g, s * 5, none⟩ = some (.int .i64 z.v)) (first | exact hq | go_keep) (first
          | (go_at_call 10; refine (pick_of _ (by assumption)).mono ?_; rintro e w' ⟨rfl, rfl⟩)
          | (go_at_call 21; go_must (refine (C.out _ ?_).mono ?_; (refine HO.out.at_.below ?_; (repeat (first | exact Below.refl _ _ | refine below_alloc ?_ _ | refine below_drew ?_ | refine below_drewN ?_ _))); rintro e w2 ⟨A2, c2, rfl, hown, hbel⟩; have hq : w2.cell? ⟨b, off + i * 4 + 3, none⟩ = some (.int .i64 x.d) ∧ w2.cell? ⟨g, s * 5, none⟩ = some (.int .i64 z.v) := ⟨below_cell hbel c3, below_cell hbel r0⟩; have HO2 := Lib.hid hown; have HB2 := Lib.hid hbel; clear hown hbel)))
        all_goals go_wp2
        all_goals go_roundw
        case rel => exact ⟨i + 1, A2, c2, _, by omega, by omega, by go_num, rfl, HO2.out.lower HB.out.size, good_set HG.out hgs ((fine_state HF.out _ 3 (by omega)).mono hgs), below_step (below_drewN HB.out 1) HB2.out⟩
        case measure => simp [intOf]; omega
      · have C := Lib.hid (rrev_any A' c' s 4 L HG.out.1 z i _ rfl wr HO.out.at_ (by omega) HZ.out)
        generalize decide (z.s = 3) = bb at C
        go_wp2_with (first | (go_at_call 10; refine (pick_of _ (by assumption)).mono ?_; rintro e w' ⟨rfl, rfl⟩) | (go_at_call 22; refine C.out.mono ?_; rintro e w2 ⟨A2, c2, rfl, hown, hbel⟩; have HO2 := Lib.hid hown; have HB2 := Lib.hid hbel; clear hown hbel))
        all_goals go_roundw
        case rel => exact ⟨i + 1, A2, c2, _, by omega, by omega, by go_num, rfl, HO2.out.lower HB.out.size, good_set HG.out hgs ((fine_revive HF.out _ _).mono hgs), below_step HB.out HB2.out⟩
        case measure => simp [intOf]; omega
    · by_cases hl1 : i < rs.length
      · have g1 : decide ((i : Int) < 30) = false := decide_eq_false (by omega)
        go_wp2
        go_ret
        exact ⟨A', c', L, rfl, HO.out, ⟨HG.out.1, fun x hx => (HG.out.2 x hx).mono (by omega)⟩, HB.out⟩
      · go_wp2
        go_ret
        exact ⟨A', c', L, rfl, HO.out, ⟨HG.out.1, fun x hx => (HG.out.2 x hx).mono (by omega)⟩, HB.out⟩
end Go.Proofs.Ytgeocadpdpjmjaa.Out
