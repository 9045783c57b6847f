/- MarketGreatest: its walk. -/
import Derived.Test.YtkmmiiaadoinpaaMarP
import Derived.Test.YtkmmiiaadoinpaaMarN
namespace Go.Proofs.Ytkmmiiaadoinpaa.Mar
open Go.RowKit Go.Proofs.Ytkmmiiaadoinpaa.Mem

def dI : En Int := ⟨fun n => [.int .i64 n], 1, by omega, fun _ => rfl, fun x u hu => by simp at hu; rcases hu with rfl; rfl⟩
def I64 (n : Int) : Prop := -9223372036854775808 ≤ n ∧ n ≤ 9223372036854775807
theorem at_getI {w : World} {A : Option Addr} {c : Nat} {xs : List Int} (h : dI.At w A c xs) (k : Nat) (x : Int) (hx : xs[k]? = some x) :
    ∃ b off, A = some ⟨b, off, none⟩ ∧ b < w.heap.size ∧ w.cell? ⟨b, off + k, none⟩ = some (.int .i64 x) := by
  obtain ⟨b, off, hA, hlt, hc⟩ := h.get k x hx
  have h0 := hc 0 (by decide)
  have e : k * dI.sz + 0 = k := by show k * 1 + 0 = k; omega
  rw [e] at h0
  exact ⟨b, off, hA, hlt, h0⟩
/-- The slice lies in no cell of block g. -/
def Off (A : Option Addr) (g : Nat) : Prop := ∀ b off, A = some ⟨b, off, none⟩ → b ≠ g
theorem At.set_far {α : Type} {d : En α} {w : World} {A : Option Addr} {c : Nat} {xs : List α} (h : d.At w A c xs) {p : Addr} (hA : Off A p.block) (u : Value) : d.At (w.setCell p u) A c xs :=
  ⟨h.le, h.max, h.nil, fun hn => by
    obtain ⟨b, off, rfl, hlt, hc⟩ := h.cell hn
    refine ⟨b, off, rfl, by simpa [World.setCell] using hlt, fun i hi => ?_⟩
    rw [← hc i hi]
    exact World.cell?_of_block (Below.heap_setCell w p u b (hA b off rfl))⟩
theorem off_own {α : Type} {d : En α} {e : TypeId} {w : World} {base c : Nat} {A : Option Addr} {xs : List α} (h : d.Own e w base A c xs) {g : Nat} (hg : g < base) : Off A g := fun b off hA => by
  subst hA
  have := (own_at0 h).2.1
  omega
theorem off_at {α : Type} {d : En α} {w : World} {c : Nat} {A : Option Addr} {xs : List α} (h : d.At w A c xs) (h0 : 0 < xs.length) {g : Nat} (hg : w.heap.size ≤ g) : Off A g := fun b off hA => by
  obtain ⟨b', off', e, hlt, _⟩ := h.cell h0
  rw [hA] at e
  injection e with e
  injection e with e1 e2
  omega

def S0 : List Shown := [⟨2, 7⟩, ⟨0, 0⟩, ⟨5, 8⟩]
theorem showL_up (S : List Shown) (m : Mail) (k : Nat) (x y : Shown) (hx : S[k]? = some x) (hy : (showL S m)[k]? = some y) : x.v ≤ y.v := by
  by_cases hk : (k : Int) = m.s
  · rcases showL_at S m k (List.getElem?_eq_some_iff.1 hx).1 hk.symm x hx with ⟨hv, e⟩ | ⟨hv, e⟩
    · rw [e] at hy
      have := Option.some.inj hy
      subst this
      exact Int.le_of_lt hv
    · rw [e] at hy
      have := Option.some.inj hy
      subst this
      exact Int.le_refl _
  · rw [showL_other S m k hk, hx] at hy
    have := Option.some.inj hy
    subst this
    exact Int.le_refl _
theorem small_erase {L : List Mail} (h : ∀ m ∈ L, Small m) (k : Nat) : ∀ m ∈ L.eraseIdx k, Small m := fun m hm => h m (List.mem_of_mem_eraseIdx hm)
theorem small_snoc {L : List Mail} (h : ∀ m ∈ L, Small m) {x : Mail} (hx : Small x) : ∀ m ∈ L ++ [x], Small m := fun m hm => by
  rcases List.mem_append.1 hm with hm | hm
  · exact h m hm
  · rw [List.mem_singleton.1 hm]; exact hx
theorem lit0 (w : World) : dS.Own 44 (w.alloc (.cells #[.int .i64 2, .int .i64 7, .int .i64 0, .int .i64 0, .int .i64 5, .int .i64 8] 44)) w.heap.size (some ⟨w.heap.size, 0, none⟩) 3 S0 :=
  En.Own.lit dS w w.heap.size 44 _ S0 (Nat.le_refl _) (by decide) rfl

set_option maxRecDepth 100000 in
set_option maxHeartbeats 4000000 in
theorem great_any (A : Option Addr) (c : Nat) (rs : List Mail) (A1 : Option Addr) (c1 : Nat) (ws : List Int) (w : World) (h : dM.At w A c rs) (hr : ∀ r ∈ rs, R64 r) (h1 : dI.At w A1 c1 ws) (hw1 : ∀ x ∈ ws, I64 x) :
    Calls Try.prog 5 #[.slice A rs.length c, .slice A1 ws.length c1] w fun e w' => e = .returned (.bool true) ∧ Below w.heap.size w w' := by
  obtain ⟨i0, hi, iz, isz, iby⟩ := info_parts info44
  have H := Lib.hid h
  have H1 := Lib.hid h1
  have HW := Lib.hid hw1
  have hws := h1.le
  have hws2 := h1.max
  have hml := mailsL_len rs
  have hsm := Lib.hid (mails_small rs)
  obtain ⟨xs, hxs⟩ : ∃ xs, mailsL rs = xs := ⟨_, rfl⟩
  obtain ⟨n, hn⟩ : ∃ n, xs.length = n := ⟨_, rfl⟩
  rw [hxs, hn] at hml
  rw [hxs] at hsm
  have HC := Lib.hid (fun W hW => mails_n A c rs xs n hxs hn W hW hr)
  have HN := Lib.hid hn
  clear h hr hxs hn h1 hw1
  go_enter Try.func5, Try.ntmps5
  go_wp2_with (first
    | (go_at_call 10; refine (HC.out _ (H.out.below B1.out)).mono ?_; rintro e w2 ⟨A2, c2, rfl, o2, b2⟩; have O2 := Lib.hid o2; have B2 := Lib.hid b2; clear o2 b2)
    | (go_at_call 9; refine (awake_any _).mono ?_; rintro e w1 ⟨rfl, b1⟩; have B1 := Lib.hid b1; clear b1)
    | (at_builtin; refine wpList_app dS _ rfl _ _ 24 rfl (w2.heap.size + 1) 44 i0 _ 16 Try.underlying24 hi iz isz iby rfl none 0 0 [] rfl rfl ?own (some ⟨w2.heap.size, 0, none⟩) 3 3 S0 rfl rfl ?at_ ?m1 ?m2 ?m3 ?_))
  case own => exact En.Own.none_ _ _ _
  case at_ => exact (lit0 w2).at_
  case m1 => simp [S0]
  case m2 => simp [S0]
  case m3 => simp
  intro A8 c8 w3 hown hg hat
  have e8 : S0.length = 3 := rfl
  rw [e8]
  obtain ⟨g, rfl, hge, _⟩ := own_getS hown 0 ⟨2, 7⟩ rfl
  have HO : Hid (dS.Own 44 w3 (w2.heap.size + 1) (some ⟨g, 0, none⟩) c8 S0) := hown
  have B3 : Hid (Below w2.heap.size w2 w3) := below_grown (below_alloc (Below.refl _ _) _) hg (fun k hk => by simp [Value.ownBlock] at hk)
  have HS : Hid (dS.At w3 (some ⟨w2.heap.size, 0, none⟩) 3 S0) := (lit0 w2).at_.below ((Below.refl _ _).grown hg (Nat.le_refl _) (fun k hk => by simp [Value.ownBlock] at hk))
  clear hown hg hat e8
  have hgs : w2.heap.size < g := hge
  go_wp2
  go_loopw [6, 7, 9] (fun v s ii wr => ∃ (i n : Nat) (A A7 : Option Addr) (c c7 : Nat) (L : List Mail) (S : List Shown), i ≤ 60 ∧ ii = .int .i64 i ∧ v = .slice A n c ∧ s = .slice A7 3 c7 ∧ Hid (L.length = n) ∧ Hid (n + i ≤ 30 + (i + 1) / 3 ∧ n + i ≤ 40) ∧ Hid (∀ m ∈ L, Small m) ∧ Hid (S.length = 3) ∧ Hid (dM.At wr A c L ∧ (0 < n → Off A g)) ∧ Hid (dS.At wr A7 c7 S ∧ Off A7 g) ∧ Hid (dS.Own 44 wr (w2.heap.size + 1) (some ⟨g, 0, none⟩) c8 S) ∧ Hid (Below w.heap.size w wr)) (fun _ _ ii _ => 60 - (intOf ii).toNat)
  case atStart =>
    refine ⟨0, n, A2, _, c2, _, xs, S0, Nat.zero_le _, rfl, rfl, rfl, HN, ⟨by omega, by omega⟩, hsm, rfl, ⟨O2.out.at_.below B3.out, fun h0 => off_at O2.out.at_ (by have := HN.out; omega) (by omega)⟩, ⟨HS.out, fun b off e => by injection e with e; injection e with e1 e2; omega⟩, HO.out, below_step (below_step B1.out B2.out) B3.out⟩
  case round =>
    obtain ⟨i, n, A4, A7, c4, c7, L, S, hi6, rfl, rfl, rfl, HL, HQ, HM, HS3, HA, HSA, HW8, HB⟩ := hrel
    by_cases hend : n = 0
    · subst hend
      have HSame : Calls Try.prog 21 #[.slice A7 3 c7, .slice (some ⟨g, 0, none⟩) 3 c8] wr fun e w' => e = .returned (.bool true) ∧ ∃ m, w' = wr.drewN m := by
        have k := sameS_any A7 (some ⟨g, 0, none⟩) c7 c8 S S wr HSA.out.1 HW8.out.at_
        rw [HS3.out, decide_eq_true rfl] at k
        exact k
      have HSS := Lib.hid HSame
      clear HSame
      by_cases hi60 : i < 60
      all_goals
        go_wp2_with (go_at_call 21; refine HSS.out.mono ?_; rintro e w5 ⟨rfl, mm, rfl⟩)
        go_ret
        exact ⟨rfl, below_drewN HB.out mm⟩
    · obtain ⟨p, rfl⟩ : ∃ p, n = p + 1 := ⟨n - 1, by omega⟩
      have hq1 := HQ.out.1
      have hq2 := HQ.out.2
      have hi60 : i < 60 := by omega
      have hwg : w.heap.size ≤ g := by have h1 := B1.out.size; have h2 := B2.out.size; omega
      by_cases hwk : i < ws.length
      · obtain ⟨b1, o1, rfl, hb1, d1'⟩ := at_getI H1.out i _ (List.getElem?_eq_getElem hwk)
        have d1 := below_cell HB.out d1'
        have hI := HW.out _ (List.getElem_mem hwk)
        generalize ws[i] = y at d1 d1' hI
        have P0 : Pick y ((p : Int) + 1) (pickI y ((p : Int) + 1)) := ⟨hI, by omega, rfl⟩
        have d0 := pick_bd y ((p : Int) + 1) (by omega)
        generalize pickI y ((p : Int) + 1) = y0 at P0 d0
        obtain ⟨k, rfl⟩ : ∃ k : Nat, y0 = k := ⟨y0.toNat, by omega⟩
        have hk : k ≤ p := by omega
        clear d1' hI d0
        by_cases h3 : i % 3 = 1
        · have g3 : ((i : Int) % 3 == 1) = true := by simp; omega
          by_cases h30 : i < 30
          · have g30 : decide ((i : Int) < 30) = true := decide_eq_true (by omega)
            have h3' : Hid (i % 3 = 1 ∧ i < 30) := Lib.hid ⟨h3, h30⟩
            clear h3 h30
            have hm : L[k]? = some (L[k]'(by have := HL.out; omega)) := List.getElem?_eq_getElem _
            have hsmm := HM.out _ (List.getElem_mem (l := L) (n := k) (by have := HL.out; omega))
            generalize L[k]'(by have := HL.out; omega) = m at hm hsmm
            obtain ⟨s0, s3, v0, v9, p1, p9⟩ := hsmm
            obtain ⟨ms, mv, mp⟩ := m
            obtain ⟨j, rfl⟩ : ∃ j : Nat, ms = j := ⟨ms.toNat, by have h : 0 ≤ ms := s0; omega⟩
            have hj : j < 3 := by have h : (j : Int) < 3 := s3; omega
            have hsmm : Hid (Small ⟨j, mv, mp⟩) := ⟨s0, s3, v0, v9, p1, p9⟩
            clear s0 s3 v0 v9 p1 p9
            have HMM := Lib.hid hm
            clear hm
            have C2 : Hid (∀ A c W, dM.At W A c L → Calls Try.prog 15 #[.slice A (p + 1) c, .int .i64 (k : Int)] W (IsN W (L ++ [(⟨j, mv, mp⟩ : Mail)]) (p + 2) 0)) := Lib.hid (fun A c W hW => copy_n A c k p L ⟨j, mv, mp⟩ HL.out HMM.out (by have := HQ.out.2; omega) W hW)
            have C4 : Hid (∀ A c W, dM.At W A c (L ++ [(⟨j, mv, mp⟩ : Mail)]) → Calls Try.prog 19 #[.slice A (p + 2) c, .int .i64 (k : Int)] W (TookN W ⟨j, mv, mp⟩ ((L ++ [(⟨j, mv, mp⟩ : Mail)]).eraseIdx k) (p + 1))) := Lib.hid (fun A c W hW => take_n A c k (p + 1) (L ++ [(⟨j, mv, mp⟩ : Mail)]) _ ⟨j, mv, mp⟩ (by rw [List.length_append, HL.out]; rfl) (by rw [List.getElem?_append_left (by have := HL.out; omega)]; exact HMM.out) rfl (by have := HQ.out.2; omega) W hW)
            have HL' : Hid (((L ++ [(⟨j, mv, mp⟩ : Mail)]).eraseIdx k).length = p + 1) := Lib.hid (by rw [List.length_eraseIdx, if_pos (by rw [List.length_append, HL.out]; omega), List.length_append, HL.out]; rfl)
            have HM' := Lib.hid (small_erase (small_snoc HM.out hsmm.out) k)
            generalize (L ++ [(⟨j, mv, mp⟩ : Mail)]).eraseIdx k = L' at C4 HL' HM'
            have hx : S[j]? = some (S[j]'(by have := HS3.out; omega)) := List.getElem?_eq_getElem _
            generalize S[j]'(by have := HS3.out; omega) = x at hx
            have HX := Lib.hid hx
            clear hx
            have T1 := Lib.hid (showL_in S ⟨j, mv, mp⟩ j (by have := HS3.out; omega) rfl x HX.out)
            have D1 := Lib.hid (fun k x y => showL_up S ⟨j, mv, mp⟩ k x y)
            have F1 := Lib.hid (fun A c W hW => show3 A c S ⟨j, mv, mp⟩ W HS3.out hW)
            have HS3' := Lib.hid ((showL_len S ⟨j, mv, mp⟩).trans HS3.out)
            generalize showL S ⟨j, mv, mp⟩ = T at T1 D1 F1 HS3'
            have B0 := Lib.hid (Below.refl wr.heap.size wr)
            go_wp2_with (first | (go_at_call 15; refine (C2.out _ _ _ HA.out.1).mono ?_; rintro e w5 ⟨A5, c5, rfl, o5, b5⟩; have O5 := Lib.hid o5; have B5 := Lib.hid b5; clear o5 b5) | (go_at_call 19; refine (C4.out _ _ _ O5.out.at_).mono ?_; rintro e w6 ⟨A6, c6, rfl, o6, b6⟩; have O6 := Lib.hid o6; have B6 := Lib.hid b6; clear o6 b6) | (go_at_call 14; refine (pick_of _ (by assumption)).mono ?_; rintro e w' ⟨rfl, rfl⟩))
            have BX := Lib.hid (below_step B5.out B6.out)
            obtain ⟨g', e', hge', hlt', r0, r1⟩ := own_getS (HW8.out.below BX.out) j x HX.out
            obtain rfl : g = g' := by injection e' with e'; injection e'
            clear e'
            have f0 := (HW8.out.below BX.out).free (j * 2)
            have f1 := (HW8.out.below BX.out).free (j * 2 + 1)
            have hne : g ≠ w6.heap.size := by omega
            have hne2 : w6.heap.size ≠ g := by omega
            have hgw : g < wr.heap.size := (own_at0 HW8.out).2.2
            have hL6 : Hid (Off A6 g) := Lib.hid (off_own O6.out (by have := B5.out.size; omega))
            by_cases hv' : x.v < mv
            · have hv : decide (x.v < mv) = true := decide_eq_true hv'
              have T2 := Lib.hid (T1.out.trans (if_pos hv'))
              clear T1
              go_quiet (fail)
              go_wp2_with (go_at_call 22; refine (F1.out _ _ _ ?_).mono ?_; (exact At.set_far (At.set_far (((HSA.out.1.below BX.out).below (below_alloc (Below.refl _ _) _)).drewN nq) HSA.out.2 _) HSA.out.2 _); rintro e w7 ⟨A9, c9, rfl, o9, b9⟩; have O9 := Lib.hid o9; have B9 := Lib.hid b9; clear o9 b9)
              have NS : Hid (dS.At w7 A7 c7 S) := En.At.below (At.set_far (At.set_far (((HSA.out.1.below BX.out).below (below_alloc (Below.refl _ _) _)).drewN nq) HSA.out.2 _) HSA.out.2 _) B9.out
              have NT := Lib.hid O9.out.at_
              have NL : Hid (dM.At w7 A6 c6 L') := En.At.below (At.set_far (At.set_far ((O6.out.at_.below (below_alloc (Below.refl _ _) _)).drewN nq) hL6.out _) hL6.out _) B9.out
              have NW : Hid (dS.Own 44 w7 (w2.heap.size + 1) (some ⟨g, 0, none⟩) c8 T) := by rw [T2.out]; exact (own_setS (((HW8.out.below BX.out).below (below_alloc (Below.refl _ _) _)).drewN nq) j (by have := HS3.out; omega) ⟨mv, mp⟩).below B9.out
              have NB : Hid (Below w.heap.size w w7) := below_step (below_set (below_set (below_drewN (below_alloc (below_step HB.out BX.out) _) nq) hwg _) hwg _) B9.out
              have hT9 : Hid (Off A9 g) := Lib.hid (off_own O9.out (by simp; omega))
              clear r0 r1 f0 f1 hv
              go_loopw [17] (fun kk wr2 => ∃ (q m : Nat), q ≤ 3 ∧ kk = .int .i64 q ∧ wr2 = w7.drewN m) (fun kk _ => 3 - (intOf kk).toNat)
              case atStart => exact ⟨0, 0, Nat.zero_le _, rfl, rfl⟩
              case round =>
                obtain ⟨q, mq, hq3, rfl, rfl⟩ := hrel
                by_cases hlt3 : q < 3
                · have ex : S[q]? = some (S[q]'(by have := HS3.out; omega)) := List.getElem?_eq_getElem _
                  have ey : T[q]? = some (T[q]'(by have := HS3'.out; omega)) := List.getElem?_eq_getElem _
                  have hle := D1.out q _ _ ex ey
                  obtain ⟨bs, os, rfl, hbs, cs0, cs1⟩ := at_getS NS.out q _ ex
                  obtain ⟨bt, ot, rfl, hbt, ct0, ct1⟩ := at_getS NT.out q _ ey
                  generalize S[q]'(by have := HS3.out; omega) = x1 at cs0 cs1 hle ex
                  generalize T[q]'(by have := HS3'.out; omega) = y1 at ct0 ct1 hle ey
                  have hge1 : decide (y1.v < x1.v) = false := decide_eq_false (Int.not_lt.2 hle)
                  clear ex ey cs1 ct1 hle
                  go_wp2_with fail
                  go_quiet (fail)
                  go_wp2
                  refine ⟨⟨q + 1, mq + nq, by omega, by go_num, by go_simp⟩, ?_⟩
                  simp [intOf]; omega
                · obtain rfl : q = 3 := by omega
                  go_wp2
                  refine ⟨⟨i + 1, p + 1, A6, A9, c6, c9, L', T, by omega, by go_num, rfl, rfl, HL', ⟨by have := h3'.out; omega, by have := h3'.out; omega⟩, HM', HS3', ⟨NL.out.drewN mq, fun _ => hL6.out⟩, ⟨NT.out.drewN mq, hT9.out⟩, NW.out.drewN mq, below_drewN NB.out mq⟩, ?_⟩
                  simp [intOf]; omega
            · have hv : decide (x.v < mv) = false := decide_eq_false hv'
              have T2 := Lib.hid (T1.out.trans (if_neg hv'))
              clear T1 hv'
              go_quiet (fail)
              go_wp2_with (go_at_call 22; refine (F1.out _ _ _ ?_).mono ?_; (exact ((HSA.out.1.below BX.out).below (below_alloc (Below.refl _ _) _)).drewN nq); rintro e w7 ⟨A9, c9, rfl, o9, b9⟩; have O9 := Lib.hid o9; have B9 := Lib.hid b9; clear o9 b9)
              have NS : Hid (dS.At w7 A7 c7 S) := En.At.below (((HSA.out.1.below BX.out).below (below_alloc (Below.refl _ _) _)).drewN nq) B9.out
              have NT := Lib.hid O9.out.at_
              have NL : Hid (dM.At w7 A6 c6 L') := En.At.below ((O6.out.at_.below (below_alloc (Below.refl _ _) _)).drewN nq) B9.out
              have NW : Hid (dS.Own 44 w7 (w2.heap.size + 1) (some ⟨g, 0, none⟩) c8 T) := by rw [T2.out]; exact (((HW8.out.below BX.out).below (below_alloc (Below.refl _ _) _)).drewN nq).below B9.out
              have NB : Hid (Below w.heap.size w w7) := below_step (below_drewN (below_alloc (below_step HB.out BX.out) _) nq) B9.out
              have hT9 : Hid (Off A9 g) := Lib.hid (off_own O9.out (by simp; omega))
              clear r0 r1 f0 f1 hv
              go_loopw [17] (fun kk wr2 => ∃ (q m : Nat), q ≤ 3 ∧ kk = .int .i64 q ∧ wr2 = w7.drewN m) (fun kk _ => 3 - (intOf kk).toNat)
              case atStart => exact ⟨0, 0, Nat.zero_le _, rfl, rfl⟩
              case round =>
                obtain ⟨q, mq, hq3, rfl, rfl⟩ := hrel
                by_cases hlt3 : q < 3
                · have ex : S[q]? = some (S[q]'(by have := HS3.out; omega)) := List.getElem?_eq_getElem _
                  have ey : T[q]? = some (T[q]'(by have := HS3'.out; omega)) := List.getElem?_eq_getElem _
                  have hle := D1.out q _ _ ex ey
                  obtain ⟨bs, os, rfl, hbs, cs0, cs1⟩ := at_getS NS.out q _ ex
                  obtain ⟨bt, ot, rfl, hbt, ct0, ct1⟩ := at_getS NT.out q _ ey
                  generalize S[q]'(by have := HS3.out; omega) = x1 at cs0 cs1 hle ex
                  generalize T[q]'(by have := HS3'.out; omega) = y1 at ct0 ct1 hle ey
                  have hge1 : decide (y1.v < x1.v) = false := decide_eq_false (Int.not_lt.2 hle)
                  clear ex ey cs1 ct1 hle
                  go_wp2_with fail
                  go_quiet (fail)
                  go_wp2
                  refine ⟨⟨q + 1, mq + nq, by omega, by go_num, by go_simp⟩, ?_⟩
                  simp [intOf]; omega
                · obtain rfl : q = 3 := by omega
                  go_wp2
                  refine ⟨⟨i + 1, p + 1, A6, A9, c6, c9, L', T, by omega, by go_num, rfl, rfl, HL', ⟨by have := h3'.out; omega, by have := h3'.out; omega⟩, HM', HS3', ⟨NL.out.drewN mq, fun _ => hL6.out⟩, ⟨NT.out.drewN mq, hT9.out⟩, NW.out.drewN mq, below_drewN NB.out mq⟩, ?_⟩
                  simp [intOf]; omega
          · have g30 : decide ((i : Int) < 30) = false := decide_eq_false (by omega)
            clear h3 h30
            have hm : L[k]? = some (L[k]'(by have := HL.out; omega)) := List.getElem?_eq_getElem _
            have hsmm := HM.out _ (List.getElem_mem (l := L) (n := k) (by have := HL.out; omega))
            generalize L[k]'(by have := HL.out; omega) = m at hm hsmm
            obtain ⟨s0, s3, v0, v9, p1, p9⟩ := hsmm
            obtain ⟨ms, mv, mp⟩ := m
            obtain ⟨j, rfl⟩ : ∃ j : Nat, ms = j := ⟨ms.toNat, by have h : 0 ≤ ms := s0; omega⟩
            have hj : j < 3 := by have h : (j : Int) < 3 := s3; omega
            have hsmm : Hid (Small ⟨j, mv, mp⟩) := ⟨s0, s3, v0, v9, p1, p9⟩
            clear s0 s3 v0 v9 p1 p9
            have HMM := Lib.hid hm
            clear hm
            have C4 : Hid (∀ A c W, dM.At W A c L → Calls Try.prog 19 #[.slice A (p + 1) c, .int .i64 (k : Int)] W (TookN W ⟨j, mv, mp⟩ (L.eraseIdx k) p)) := Lib.hid (fun A c W hW => take_n A c k p L _ ⟨j, mv, mp⟩ HL.out HMM.out rfl (by have := HQ.out.2; omega) W hW)
            have HL' : Hid ((L.eraseIdx k).length = p) := Lib.hid (by rw [List.length_eraseIdx, if_pos (by have := HL.out; omega), HL.out]; rfl)
            have HM' := Lib.hid (small_erase HM.out k)
            generalize L.eraseIdx k = L' at C4 HL' HM'
            have hx : S[j]? = some (S[j]'(by have := HS3.out; omega)) := List.getElem?_eq_getElem _
            generalize S[j]'(by have := HS3.out; omega) = x at hx
            have HX := Lib.hid hx
            clear hx
            have T1 := Lib.hid (showL_in S ⟨j, mv, mp⟩ j (by have := HS3.out; omega) rfl x HX.out)
            have D1 := Lib.hid (fun k x y => showL_up S ⟨j, mv, mp⟩ k x y)
            have F1 := Lib.hid (fun A c W hW => show3 A c S ⟨j, mv, mp⟩ W HS3.out hW)
            have HS3' := Lib.hid ((showL_len S ⟨j, mv, mp⟩).trans HS3.out)
            generalize showL S ⟨j, mv, mp⟩ = T at T1 D1 F1 HS3'
            have B0 := Lib.hid (Below.refl wr.heap.size wr)
            go_wp2_with (first | (go_at_call 19; refine (C4.out _ _ _ HA.out.1).mono ?_; rintro e w6 ⟨A6, c6, rfl, o6, b6⟩; have O6 := Lib.hid o6; have B6 := Lib.hid b6; clear o6 b6) | (go_at_call 14; refine (pick_of _ (by assumption)).mono ?_; rintro e w' ⟨rfl, rfl⟩))
            have BX := Lib.hid B6.out
            obtain ⟨g', e', hge', hlt', r0, r1⟩ := own_getS (HW8.out.below BX.out) j x HX.out
            obtain rfl : g = g' := by injection e' with e'; injection e'
            clear e'
            have f0 := (HW8.out.below BX.out).free (j * 2)
            have f1 := (HW8.out.below BX.out).free (j * 2 + 1)
            have hne : g ≠ w6.heap.size := by omega
            have hne2 : w6.heap.size ≠ g := by omega
            have hgw : g < wr.heap.size := (own_at0 HW8.out).2.2
            have hL6 : Hid (Off A6 g) := Lib.hid (off_own O6.out (by omega))
            by_cases hv' : x.v < mv
            · have hv : decide (x.v < mv) = true := decide_eq_true hv'
              have T2 := Lib.hid (T1.out.trans (if_pos hv'))
              clear T1
              go_quiet (fail)
              go_wp2_with (go_at_call 22; refine (F1.out _ _ _ ?_).mono ?_; (exact At.set_far (At.set_far (((HSA.out.1.below BX.out).below (below_alloc (Below.refl _ _) _)).drewN nq) HSA.out.2 _) HSA.out.2 _); rintro e w7 ⟨A9, c9, rfl, o9, b9⟩; have O9 := Lib.hid o9; have B9 := Lib.hid b9; clear o9 b9)
              have NS : Hid (dS.At w7 A7 c7 S) := En.At.below (At.set_far (At.set_far (((HSA.out.1.below BX.out).below (below_alloc (Below.refl _ _) _)).drewN nq) HSA.out.2 _) HSA.out.2 _) B9.out
              have NT := Lib.hid O9.out.at_
              have NL : Hid (dM.At w7 A6 c6 L') := En.At.below (At.set_far (At.set_far ((O6.out.at_.below (below_alloc (Below.refl _ _) _)).drewN nq) hL6.out _) hL6.out _) B9.out
              have NW : Hid (dS.Own 44 w7 (w2.heap.size + 1) (some ⟨g, 0, none⟩) c8 T) := by rw [T2.out]; exact (own_setS (((HW8.out.below BX.out).below (below_alloc (Below.refl _ _) _)).drewN nq) j (by have := HS3.out; omega) ⟨mv, mp⟩).below B9.out
              have NB : Hid (Below w.heap.size w w7) := below_step (below_set (below_set (below_drewN (below_alloc (below_step HB.out BX.out) _) nq) hwg _) hwg _) B9.out
              have hT9 : Hid (Off A9 g) := Lib.hid (off_own O9.out (by simp; omega))
              clear r0 r1 f0 f1 hv
              go_loopw [17] (fun kk wr2 => ∃ (q m : Nat), q ≤ 3 ∧ kk = .int .i64 q ∧ wr2 = w7.drewN m) (fun kk _ => 3 - (intOf kk).toNat)
              case atStart => exact ⟨0, 0, Nat.zero_le _, rfl, rfl⟩
              case round =>
                obtain ⟨q, mq, hq3, rfl, rfl⟩ := hrel
                by_cases hlt3 : q < 3
                · have ex : S[q]? = some (S[q]'(by have := HS3.out; omega)) := List.getElem?_eq_getElem _
                  have ey : T[q]? = some (T[q]'(by have := HS3'.out; omega)) := List.getElem?_eq_getElem _
                  have hle := D1.out q _ _ ex ey
                  obtain ⟨bs, os, rfl, hbs, cs0, cs1⟩ := at_getS NS.out q _ ex
                  obtain ⟨bt, ot, rfl, hbt, ct0, ct1⟩ := at_getS NT.out q _ ey
                  generalize S[q]'(by have := HS3.out; omega) = x1 at cs0 cs1 hle ex
                  generalize T[q]'(by have := HS3'.out; omega) = y1 at ct0 ct1 hle ey
                  have hge1 : decide (y1.v < x1.v) = false := decide_eq_false (Int.not_lt.2 hle)
                  clear ex ey cs1 ct1 hle
                  go_wp2_with fail
                  go_quiet (fail)
                  go_wp2
                  refine ⟨⟨q + 1, mq + nq, by omega, by go_num, by go_simp⟩, ?_⟩
                  simp [intOf]; omega
                · obtain rfl : q = 3 := by omega
                  go_wp2
                  refine ⟨⟨i + 1, p, A6, A9, c6, c9, L', T, by omega, by go_num, rfl, rfl, HL', ⟨by omega, by omega⟩, HM', HS3', ⟨NL.out.drewN mq, fun _ => hL6.out⟩, ⟨NT.out.drewN mq, hT9.out⟩, NW.out.drewN mq, below_drewN NB.out mq⟩, ?_⟩
                  simp [intOf]; omega
            · have hv : decide (x.v < mv) = false := decide_eq_false hv'
              have T2 := Lib.hid (T1.out.trans (if_neg hv'))
              clear T1 hv'
              go_quiet (fail)
              go_wp2_with (go_at_call 22; refine (F1.out _ _ _ ?_).mono ?_; (exact ((HSA.out.1.below BX.out).below (below_alloc (Below.refl _ _) _)).drewN nq); rintro e w7 ⟨A9, c9, rfl, o9, b9⟩; have O9 := Lib.hid o9; have B9 := Lib.hid b9; clear o9 b9)
              have NS : Hid (dS.At w7 A7 c7 S) := En.At.below (((HSA.out.1.below BX.out).below (below_alloc (Below.refl _ _) _)).drewN nq) B9.out
              have NT := Lib.hid O9.out.at_
              have NL : Hid (dM.At w7 A6 c6 L') := En.At.below ((O6.out.at_.below (below_alloc (Below.refl _ _) _)).drewN nq) B9.out
              have NW : Hid (dS.Own 44 w7 (w2.heap.size + 1) (some ⟨g, 0, none⟩) c8 T) := by rw [T2.out]; exact (((HW8.out.below BX.out).below (below_alloc (Below.refl _ _) _)).drewN nq).below B9.out
              have NB : Hid (Below w.heap.size w w7) := below_step (below_drewN (below_alloc (below_step HB.out BX.out) _) nq) B9.out
              have hT9 : Hid (Off A9 g) := Lib.hid (off_own O9.out (by simp; omega))
              clear r0 r1 f0 f1 hv
              go_loopw [17] (fun kk wr2 => ∃ (q m : Nat), q ≤ 3 ∧ kk = .int .i64 q ∧ wr2 = w7.drewN m) (fun kk _ => 3 - (intOf kk).toNat)
              case atStart => exact ⟨0, 0, Nat.zero_le _, rfl, rfl⟩
              case round =>
                obtain ⟨q, mq, hq3, rfl, rfl⟩ := hrel
                by_cases hlt3 : q < 3
                · have ex : S[q]? = some (S[q]'(by have := HS3.out; omega)) := List.getElem?_eq_getElem _
                  have ey : T[q]? = some (T[q]'(by have := HS3'.out; omega)) := List.getElem?_eq_getElem _
                  have hle := D1.out q _ _ ex ey
                  obtain ⟨bs, os, rfl, hbs, cs0, cs1⟩ := at_getS NS.out q _ ex
                  obtain ⟨bt, ot, rfl, hbt, ct0, ct1⟩ := at_getS NT.out q _ ey
                  generalize S[q]'(by have := HS3.out; omega) = x1 at cs0 cs1 hle ex
                  generalize T[q]'(by have := HS3'.out; omega) = y1 at ct0 ct1 hle ey
                  have hge1 : decide (y1.v < x1.v) = false := decide_eq_false (Int.not_lt.2 hle)
                  clear ex ey cs1 ct1 hle
                  go_wp2_with fail
                  go_quiet (fail)
                  go_wp2
                  refine ⟨⟨q + 1, mq + nq, by omega, by go_num, by go_simp⟩, ?_⟩
                  simp [intOf]; omega
                · obtain rfl : q = 3 := by omega
                  go_wp2
                  refine ⟨⟨i + 1, p, A6, A9, c6, c9, L', T, by omega, by go_num, rfl, rfl, HL', ⟨by omega, by omega⟩, HM', HS3', ⟨NL.out.drewN mq, fun _ => hL6.out⟩, ⟨NT.out.drewN mq, hT9.out⟩, NW.out.drewN mq, below_drewN NB.out mq⟩, ?_⟩
                  simp [intOf]; omega
        · have g3 : ((i : Int) % 3 == 1) = false := by simp; omega
          clear h3
          have hm : L[k]? = some (L[k]'(by have := HL.out; omega)) := List.getElem?_eq_getElem _
          have hsmm := HM.out _ (List.getElem_mem (l := L) (n := k) (by have := HL.out; omega))
          generalize L[k]'(by have := HL.out; omega) = m at hm hsmm
          obtain ⟨s0, s3, v0, v9, p1, p9⟩ := hsmm
          obtain ⟨ms, mv, mp⟩ := m
          obtain ⟨j, rfl⟩ : ∃ j : Nat, ms = j := ⟨ms.toNat, by have h : 0 ≤ ms := s0; omega⟩
          have hj : j < 3 := by have h : (j : Int) < 3 := s3; omega
          have hsmm : Hid (Small ⟨j, mv, mp⟩) := ⟨s0, s3, v0, v9, p1, p9⟩
          clear s0 s3 v0 v9 p1 p9
          have HMM := Lib.hid hm
          clear hm
          have C4 : Hid (∀ A c W, dM.At W A c L → Calls Try.prog 19 #[.slice A (p + 1) c, .int .i64 (k : Int)] W (TookN W ⟨j, mv, mp⟩ (L.eraseIdx k) p)) := Lib.hid (fun A c W hW => take_n A c k p L _ ⟨j, mv, mp⟩ HL.out HMM.out rfl (by have := HQ.out.2; omega) W hW)
          have HL' : Hid ((L.eraseIdx k).length = p) := Lib.hid (by rw [List.length_eraseIdx, if_pos (by have := HL.out; omega), HL.out]; rfl)
          have HM' := Lib.hid (small_erase HM.out k)
          generalize L.eraseIdx k = L' at C4 HL' HM'
          have hx : S[j]? = some (S[j]'(by have := HS3.out; omega)) := List.getElem?_eq_getElem _
          generalize S[j]'(by have := HS3.out; omega) = x at hx
          have HX := Lib.hid hx
          clear hx
          have T1 := Lib.hid (showL_in S ⟨j, mv, mp⟩ j (by have := HS3.out; omega) rfl x HX.out)
          have D1 := Lib.hid (fun k x y => showL_up S ⟨j, mv, mp⟩ k x y)
          have F1 := Lib.hid (fun A c W hW => show3 A c S ⟨j, mv, mp⟩ W HS3.out hW)
          have HS3' := Lib.hid ((showL_len S ⟨j, mv, mp⟩).trans HS3.out)
          generalize showL S ⟨j, mv, mp⟩ = T at T1 D1 F1 HS3'
          have B0 := Lib.hid (Below.refl wr.heap.size wr)
          go_wp2_with (first | (go_at_call 19; refine (C4.out _ _ _ HA.out.1).mono ?_; rintro e w6 ⟨A6, c6, rfl, o6, b6⟩; have O6 := Lib.hid o6; have B6 := Lib.hid b6; clear o6 b6) | (go_at_call 14; refine (pick_of _ (by assumption)).mono ?_; rintro e w' ⟨rfl, rfl⟩))
          have BX := Lib.hid B6.out
          obtain ⟨g', e', hge', hlt', r0, r1⟩ := own_getS (HW8.out.below BX.out) j x HX.out
          obtain rfl : g = g' := by injection e' with e'; injection e'
          clear e'
          have f0 := (HW8.out.below BX.out).free (j * 2)
          have f1 := (HW8.out.below BX.out).free (j * 2 + 1)
          have hne : g ≠ w6.heap.size := by omega
          have hne2 : w6.heap.size ≠ g := by omega
          have hgw : g < wr.heap.size := (own_at0 HW8.out).2.2
          have hL6 : Hid (Off A6 g) := Lib.hid (off_own O6.out (by omega))
          by_cases hv' : x.v < mv
          · have hv : decide (x.v < mv) = true := decide_eq_true hv'
            have T2 := Lib.hid (T1.out.trans (if_pos hv'))
            clear T1
            go_quiet (fail)
            go_wp2_with (go_at_call 22; refine (F1.out _ _ _ ?_).mono ?_; (exact At.set_far (At.set_far (((HSA.out.1.below BX.out).below (below_alloc (Below.refl _ _) _)).drewN nq) HSA.out.2 _) HSA.out.2 _); rintro e w7 ⟨A9, c9, rfl, o9, b9⟩; have O9 := Lib.hid o9; have B9 := Lib.hid b9; clear o9 b9)
            have NS : Hid (dS.At w7 A7 c7 S) := En.At.below (At.set_far (At.set_far (((HSA.out.1.below BX.out).below (below_alloc (Below.refl _ _) _)).drewN nq) HSA.out.2 _) HSA.out.2 _) B9.out
            have NT := Lib.hid O9.out.at_
            have NL : Hid (dM.At w7 A6 c6 L') := En.At.below (At.set_far (At.set_far ((O6.out.at_.below (below_alloc (Below.refl _ _) _)).drewN nq) hL6.out _) hL6.out _) B9.out
            have NW : Hid (dS.Own 44 w7 (w2.heap.size + 1) (some ⟨g, 0, none⟩) c8 T) := by rw [T2.out]; exact (own_setS (((HW8.out.below BX.out).below (below_alloc (Below.refl _ _) _)).drewN nq) j (by have := HS3.out; omega) ⟨mv, mp⟩).below B9.out
            have NB : Hid (Below w.heap.size w w7) := below_step (below_set (below_set (below_drewN (below_alloc (below_step HB.out BX.out) _) nq) hwg _) hwg _) B9.out
            have hT9 : Hid (Off A9 g) := Lib.hid (off_own O9.out (by simp; omega))
            clear r0 r1 f0 f1 hv
            go_loopw [17] (fun kk wr2 => ∃ (q m : Nat), q ≤ 3 ∧ kk = .int .i64 q ∧ wr2 = w7.drewN m) (fun kk _ => 3 - (intOf kk).toNat)
            case atStart => exact ⟨0, 0, Nat.zero_le _, rfl, rfl⟩
            case round =>
              obtain ⟨q, mq, hq3, rfl, rfl⟩ := hrel
              by_cases hlt3 : q < 3
              · have ex : S[q]? = some (S[q]'(by have := HS3.out; omega)) := List.getElem?_eq_getElem _
                have ey : T[q]? = some (T[q]'(by have := HS3'.out; omega)) := List.getElem?_eq_getElem _
                have hle := D1.out q _ _ ex ey
                obtain ⟨bs, os, rfl, hbs, cs0, cs1⟩ := at_getS NS.out q _ ex
                obtain ⟨bt, ot, rfl, hbt, ct0, ct1⟩ := at_getS NT.out q _ ey
                generalize S[q]'(by have := HS3.out; omega) = x1 at cs0 cs1 hle ex
                generalize T[q]'(by have := HS3'.out; omega) = y1 at ct0 ct1 hle ey
                have hge1 : decide (y1.v < x1.v) = false := decide_eq_false (Int.not_lt.2 hle)
                clear ex ey cs1 ct1 hle
                go_wp2_with fail
                go_quiet (fail)
                go_wp2
                refine ⟨⟨q + 1, mq + nq, by omega, by go_num, by go_simp⟩, ?_⟩
                simp [intOf]; omega
              · obtain rfl : q = 3 := by omega
                go_wp2
                refine ⟨⟨i + 1, p, A6, A9, c6, c9, L', T, by omega, by go_num, rfl, rfl, HL', ⟨by omega, by omega⟩, HM', HS3', ⟨NL.out.drewN mq, fun _ => hL6.out⟩, ⟨NT.out.drewN mq, hT9.out⟩, NW.out.drewN mq, below_drewN NB.out mq⟩, ?_⟩
                simp [intOf]; omega
          · have hv : decide (x.v < mv) = false := decide_eq_false hv'
            have T2 := Lib.hid (T1.out.trans (if_neg hv'))
            clear T1 hv'
            go_quiet (fail)
            go_wp2_with (go_at_call 22; refine (F1.out _ _ _ ?_).mono ?_; (exact ((HSA.out.1.below BX.out).below (below_alloc (Below.refl _ _) _)).drewN nq); rintro e w7 ⟨A9, c9, rfl, o9, b9⟩; have O9 := Lib.hid o9; have B9 := Lib.hid b9; clear o9 b9)
            have NS : Hid (dS.At w7 A7 c7 S) := En.At.below (((HSA.out.1.below BX.out).below (below_alloc (Below.refl _ _) _)).drewN nq) B9.out
            have NT := Lib.hid O9.out.at_
            have NL : Hid (dM.At w7 A6 c6 L') := En.At.below ((O6.out.at_.below (below_alloc (Below.refl _ _) _)).drewN nq) B9.out
            have NW : Hid (dS.Own 44 w7 (w2.heap.size + 1) (some ⟨g, 0, none⟩) c8 T) := by rw [T2.out]; exact (((HW8.out.below BX.out).below (below_alloc (Below.refl _ _) _)).drewN nq).below B9.out
            have NB : Hid (Below w.heap.size w w7) := below_step (below_drewN (below_alloc (below_step HB.out BX.out) _) nq) B9.out
            have hT9 : Hid (Off A9 g) := Lib.hid (off_own O9.out (by simp; omega))
            clear r0 r1 f0 f1 hv
            go_loopw [17] (fun kk wr2 => ∃ (q m : Nat), q ≤ 3 ∧ kk = .int .i64 q ∧ wr2 = w7.drewN m) (fun kk _ => 3 - (intOf kk).toNat)
            case atStart => exact ⟨0, 0, Nat.zero_le _, rfl, rfl⟩
            case round =>
              obtain ⟨q, mq, hq3, rfl, rfl⟩ := hrel
              by_cases hlt3 : q < 3
              · have ex : S[q]? = some (S[q]'(by have := HS3.out; omega)) := List.getElem?_eq_getElem _
                have ey : T[q]? = some (T[q]'(by have := HS3'.out; omega)) := List.getElem?_eq_getElem _
                have hle := D1.out q _ _ ex ey
                obtain ⟨bs, os, rfl, hbs, cs0, cs1⟩ := at_getS NS.out q _ ex
                obtain ⟨bt, ot, rfl, hbt, ct0, ct1⟩ := at_getS NT.out q _ ey
                generalize S[q]'(by have := HS3.out; omega) = x1 at cs0 cs1 hle ex
                generalize T[q]'(by have := HS3'.out; omega) = y1 at ct0 ct1 hle ey
                have hge1 : decide (y1.v < x1.v) = false := decide_eq_false (Int.not_lt.2 hle)
                clear ex ey cs1 ct1 hle
                go_wp2_with fail
                go_quiet (fail)
                go_wp2
                refine ⟨⟨q + 1, mq + nq, by omega, by go_num, by go_simp⟩, ?_⟩
                simp [intOf]; omega
              · obtain rfl : q = 3 := by omega
                go_wp2
                refine ⟨⟨i + 1, p, A6, A9, c6, c9, L', T, by omega, by go_num, rfl, rfl, HL', ⟨by omega, by omega⟩, HM', HS3', ⟨NL.out.drewN mq, fun _ => hL6.out⟩, ⟨NT.out.drewN mq, hT9.out⟩, NW.out.drewN mq, below_drewN NB.out mq⟩, ?_⟩
                simp [intOf]; omega
      · have hwk2 : ws.length ≤ i := by omega
        clear hwk
        by_cases h3 : i % 3 = 1
        · have g3 : ((i : Int) % 3 == 1) = true := by simp; omega
          by_cases h30 : i < 30
          · have g30 : decide ((i : Int) < 30) = true := decide_eq_true (by omega)
            have h3' : Hid (i % 3 = 1 ∧ i < 30) := Lib.hid ⟨h3, h30⟩
            clear h3 h30
            have hm : L[0]? = some (L[0]'(by have := HL.out; omega)) := List.getElem?_eq_getElem _
            have hsmm := HM.out _ (List.getElem_mem (l := L) (n := 0) (by have := HL.out; omega))
            generalize L[0]'(by have := HL.out; omega) = m at hm hsmm
            obtain ⟨s0, s3, v0, v9, p1, p9⟩ := hsmm
            obtain ⟨ms, mv, mp⟩ := m
            obtain ⟨j, rfl⟩ : ∃ j : Nat, ms = j := ⟨ms.toNat, by have h : 0 ≤ ms := s0; omega⟩
            have hj : j < 3 := by have h : (j : Int) < 3 := s3; omega
            have hsmm : Hid (Small ⟨j, mv, mp⟩) := ⟨s0, s3, v0, v9, p1, p9⟩
            clear s0 s3 v0 v9 p1 p9
            have HMM := Lib.hid hm
            clear hm
            have C2 : Hid (∀ A c W, dM.At W A c L → Calls Try.prog 15 #[.slice A (p + 1) c, .int .i64 0] W (IsN W (L ++ [(⟨j, mv, mp⟩ : Mail)]) (p + 2) 0)) := Lib.hid (fun A c W hW => copy_n A c 0 p L ⟨j, mv, mp⟩ HL.out HMM.out (by have := HQ.out.2; omega) W hW)
            have C4 : Hid (∀ A c W, dM.At W A c (L ++ [(⟨j, mv, mp⟩ : Mail)]) → Calls Try.prog 19 #[.slice A (p + 2) c, .int .i64 0] W (TookN W ⟨j, mv, mp⟩ ((L ++ [(⟨j, mv, mp⟩ : Mail)]).eraseIdx 0) (p + 1))) := Lib.hid (fun A c W hW => take_n A c 0 (p + 1) (L ++ [(⟨j, mv, mp⟩ : Mail)]) _ ⟨j, mv, mp⟩ (by rw [List.length_append, HL.out]; rfl) (by rw [List.getElem?_append_left (by have := HL.out; omega)]; exact HMM.out) rfl (by have := HQ.out.2; omega) W hW)
            have HL' : Hid (((L ++ [(⟨j, mv, mp⟩ : Mail)]).eraseIdx 0).length = p + 1) := Lib.hid (by rw [List.length_eraseIdx, if_pos (by rw [List.length_append, HL.out]; omega), List.length_append, HL.out]; rfl)
            have HM' := Lib.hid (small_erase (small_snoc HM.out hsmm.out) 0)
            generalize (L ++ [(⟨j, mv, mp⟩ : Mail)]).eraseIdx 0 = L' at C4 HL' HM'
            have hx : S[j]? = some (S[j]'(by have := HS3.out; omega)) := List.getElem?_eq_getElem _
            generalize S[j]'(by have := HS3.out; omega) = x at hx
            have HX := Lib.hid hx
            clear hx
            have T1 := Lib.hid (showL_in S ⟨j, mv, mp⟩ j (by have := HS3.out; omega) rfl x HX.out)
            have D1 := Lib.hid (fun k x y => showL_up S ⟨j, mv, mp⟩ k x y)
            have F1 := Lib.hid (fun A c W hW => show3 A c S ⟨j, mv, mp⟩ W HS3.out hW)
            have HS3' := Lib.hid ((showL_len S ⟨j, mv, mp⟩).trans HS3.out)
            generalize showL S ⟨j, mv, mp⟩ = T at T1 D1 F1 HS3'
            have B0 := Lib.hid (Below.refl wr.heap.size wr)
            go_wp2_with (first | (go_at_call 15; refine (C2.out _ _ _ HA.out.1).mono ?_; rintro e w5 ⟨A5, c5, rfl, o5, b5⟩; have O5 := Lib.hid o5; have B5 := Lib.hid b5; clear o5 b5) | (go_at_call 19; refine (C4.out _ _ _ O5.out.at_).mono ?_; rintro e w6 ⟨A6, c6, rfl, o6, b6⟩; have O6 := Lib.hid o6; have B6 := Lib.hid b6; clear o6 b6))
            have BX := Lib.hid (below_step B5.out B6.out)
            obtain ⟨g', e', hge', hlt', r0, r1⟩ := own_getS (HW8.out.below BX.out) j x HX.out
            obtain rfl : g = g' := by injection e' with e'; injection e'
            clear e'
            have f0 := (HW8.out.below BX.out).free (j * 2)
            have f1 := (HW8.out.below BX.out).free (j * 2 + 1)
            have hne : g ≠ w6.heap.size := by omega
            have hne2 : w6.heap.size ≠ g := by omega
            have hgw : g < wr.heap.size := (own_at0 HW8.out).2.2
            have hL6 : Hid (Off A6 g) := Lib.hid (off_own O6.out (by have := B5.out.size; omega))
            by_cases hv' : x.v < mv
            · have hv : decide (x.v < mv) = true := decide_eq_true hv'
              have T2 := Lib.hid (T1.out.trans (if_pos hv'))
              clear T1
              go_quiet (fail)
              go_wp2_with (go_at_call 22; refine (F1.out _ _ _ ?_).mono ?_; (exact At.set_far (At.set_far (((HSA.out.1.below BX.out).below (below_alloc (Below.refl _ _) _)).drewN nq) HSA.out.2 _) HSA.out.2 _); rintro e w7 ⟨A9, c9, rfl, o9, b9⟩; have O9 := Lib.hid o9; have B9 := Lib.hid b9; clear o9 b9)
              have NS : Hid (dS.At w7 A7 c7 S) := En.At.below (At.set_far (At.set_far (((HSA.out.1.below BX.out).below (below_alloc (Below.refl _ _) _)).drewN nq) HSA.out.2 _) HSA.out.2 _) B9.out
              have NT := Lib.hid O9.out.at_
              have NL : Hid (dM.At w7 A6 c6 L') := En.At.below (At.set_far (At.set_far ((O6.out.at_.below (below_alloc (Below.refl _ _) _)).drewN nq) hL6.out _) hL6.out _) B9.out
              have NW : Hid (dS.Own 44 w7 (w2.heap.size + 1) (some ⟨g, 0, none⟩) c8 T) := by rw [T2.out]; exact (own_setS (((HW8.out.below BX.out).below (below_alloc (Below.refl _ _) _)).drewN nq) j (by have := HS3.out; omega) ⟨mv, mp⟩).below B9.out
              have NB : Hid (Below w.heap.size w w7) := below_step (below_set (below_set (below_drewN (below_alloc (below_step HB.out BX.out) _) nq) hwg _) hwg _) B9.out
              have hT9 : Hid (Off A9 g) := Lib.hid (off_own O9.out (by simp; omega))
              clear r0 r1 f0 f1 hv
              go_loopw [17] (fun kk wr2 => ∃ (q m : Nat), q ≤ 3 ∧ kk = .int .i64 q ∧ wr2 = w7.drewN m) (fun kk _ => 3 - (intOf kk).toNat)
              case atStart => exact ⟨0, 0, Nat.zero_le _, rfl, rfl⟩
              case round =>
                obtain ⟨q, mq, hq3, rfl, rfl⟩ := hrel
                by_cases hlt3 : q < 3
                · have ex : S[q]? = some (S[q]'(by have := HS3.out; omega)) := List.getElem?_eq_getElem _
                  have ey : T[q]? = some (T[q]'(by have := HS3'.out; omega)) := List.getElem?_eq_getElem _
                  have hle := D1.out q _ _ ex ey
                  obtain ⟨bs, os, rfl, hbs, cs0, cs1⟩ := at_getS NS.out q _ ex
                  obtain ⟨bt, ot, rfl, hbt, ct0, ct1⟩ := at_getS NT.out q _ ey
                  generalize S[q]'(by have := HS3.out; omega) = x1 at cs0 cs1 hle ex
                  generalize T[q]'(by have := HS3'.out; omega) = y1 at ct0 ct1 hle ey
                  have hge1 : decide (y1.v < x1.v) = false := decide_eq_false (Int.not_lt.2 hle)
                  clear ex ey cs1 ct1 hle
                  go_wp2_with fail
                  go_quiet (fail)
                  go_wp2
                  refine ⟨⟨q + 1, mq + nq, by omega, by go_num, by go_simp⟩, ?_⟩
                  simp [intOf]; omega
                · obtain rfl : q = 3 := by omega
                  go_wp2
                  refine ⟨⟨i + 1, p + 1, A6, A9, c6, c9, L', T, by omega, by go_num, rfl, rfl, HL', ⟨by have := h3'.out; omega, by have := h3'.out; omega⟩, HM', HS3', ⟨NL.out.drewN mq, fun _ => hL6.out⟩, ⟨NT.out.drewN mq, hT9.out⟩, NW.out.drewN mq, below_drewN NB.out mq⟩, ?_⟩
                  simp [intOf]; omega
            · have hv : decide (x.v < mv) = false := decide_eq_false hv'
              have T2 := Lib.hid (T1.out.trans (if_neg hv'))
              clear T1 hv'
              go_quiet (fail)
              go_wp2_with (go_at_call 22; refine (F1.out _ _ _ ?_).mono ?_; (exact ((HSA.out.1.below BX.out).below (below_alloc (Below.refl _ _) _)).drewN nq); rintro e w7 ⟨A9, c9, rfl, o9, b9⟩; have O9 := Lib.hid o9; have B9 := Lib.hid b9; clear o9 b9)
              have NS : Hid (dS.At w7 A7 c7 S) := En.At.below (((HSA.out.1.below BX.out).below (below_alloc (Below.refl _ _) _)).drewN nq) B9.out
              have NT := Lib.hid O9.out.at_
              have NL : Hid (dM.At w7 A6 c6 L') := En.At.below ((O6.out.at_.below (below_alloc (Below.refl _ _) _)).drewN nq) B9.out
              have NW : Hid (dS.Own 44 w7 (w2.heap.size + 1) (some ⟨g, 0, none⟩) c8 T) := by rw [T2.out]; exact (((HW8.out.below BX.out).below (below_alloc (Below.refl _ _) _)).drewN nq).below B9.out
              have NB : Hid (Below w.heap.size w w7) := below_step (below_drewN (below_alloc (below_step HB.out BX.out) _) nq) B9.out
              have hT9 : Hid (Off A9 g) := Lib.hid (off_own O9.out (by simp; omega))
              clear r0 r1 f0 f1 hv
              go_loopw [17] (fun kk wr2 => ∃ (q m : Nat), q ≤ 3 ∧ kk = .int .i64 q ∧ wr2 = w7.drewN m) (fun kk _ => 3 - (intOf kk).toNat)
              case atStart => exact ⟨0, 0, Nat.zero_le _, rfl, rfl⟩
              case round =>
                obtain ⟨q, mq, hq3, rfl, rfl⟩ := hrel
                by_cases hlt3 : q < 3
                · have ex : S[q]? = some (S[q]'(by have := HS3.out; omega)) := List.getElem?_eq_getElem _
                  have ey : T[q]? = some (T[q]'(by have := HS3'.out; omega)) := List.getElem?_eq_getElem _
                  have hle := D1.out q _ _ ex ey
                  obtain ⟨bs, os, rfl, hbs, cs0, cs1⟩ := at_getS NS.out q _ ex
                  obtain ⟨bt, ot, rfl, hbt, ct0, ct1⟩ := at_getS NT.out q _ ey
                  generalize S[q]'(by have := HS3.out; omega) = x1 at cs0 cs1 hle ex
                  generalize T[q]'(by have := HS3'.out; omega) = y1 at ct0 ct1 hle ey
                  have hge1 : decide (y1.v < x1.v) = false := decide_eq_false (Int.not_lt.2 hle)
                  clear ex ey cs1 ct1 hle
                  go_wp2_with fail
                  go_quiet (fail)
                  go_wp2
                  refine ⟨⟨q + 1, mq + nq, by omega, by go_num, by go_simp⟩, ?_⟩
                  simp [intOf]; omega
                · obtain rfl : q = 3 := by omega
                  go_wp2
                  refine ⟨⟨i + 1, p + 1, A6, A9, c6, c9, L', T, by omega, by go_num, rfl, rfl, HL', ⟨by have := h3'.out; omega, by have := h3'.out; omega⟩, HM', HS3', ⟨NL.out.drewN mq, fun _ => hL6.out⟩, ⟨NT.out.drewN mq, hT9.out⟩, NW.out.drewN mq, below_drewN NB.out mq⟩, ?_⟩
                  simp [intOf]; omega
          · have g30 : decide ((i : Int) < 30) = false := decide_eq_false (by omega)
            clear h3 h30
            have hm : L[0]? = some (L[0]'(by have := HL.out; omega)) := List.getElem?_eq_getElem _
            have hsmm := HM.out _ (List.getElem_mem (l := L) (n := 0) (by have := HL.out; omega))
            generalize L[0]'(by have := HL.out; omega) = m at hm hsmm
            obtain ⟨s0, s3, v0, v9, p1, p9⟩ := hsmm
            obtain ⟨ms, mv, mp⟩ := m
            obtain ⟨j, rfl⟩ : ∃ j : Nat, ms = j := ⟨ms.toNat, by have h : 0 ≤ ms := s0; omega⟩
            have hj : j < 3 := by have h : (j : Int) < 3 := s3; omega
            have hsmm : Hid (Small ⟨j, mv, mp⟩) := ⟨s0, s3, v0, v9, p1, p9⟩
            clear s0 s3 v0 v9 p1 p9
            have HMM := Lib.hid hm
            clear hm
            have C4 : Hid (∀ A c W, dM.At W A c L → Calls Try.prog 19 #[.slice A (p + 1) c, .int .i64 0] W (TookN W ⟨j, mv, mp⟩ (L.eraseIdx 0) p)) := Lib.hid (fun A c W hW => take_n A c 0 p L _ ⟨j, mv, mp⟩ HL.out HMM.out rfl (by have := HQ.out.2; omega) W hW)
            have HL' : Hid ((L.eraseIdx 0).length = p) := Lib.hid (by rw [List.length_eraseIdx, if_pos (by have := HL.out; omega), HL.out]; rfl)
            have HM' := Lib.hid (small_erase HM.out 0)
            generalize L.eraseIdx 0 = L' at C4 HL' HM'
            have hx : S[j]? = some (S[j]'(by have := HS3.out; omega)) := List.getElem?_eq_getElem _
            generalize S[j]'(by have := HS3.out; omega) = x at hx
            have HX := Lib.hid hx
            clear hx
            have T1 := Lib.hid (showL_in S ⟨j, mv, mp⟩ j (by have := HS3.out; omega) rfl x HX.out)
            have D1 := Lib.hid (fun k x y => showL_up S ⟨j, mv, mp⟩ k x y)
            have F1 := Lib.hid (fun A c W hW => show3 A c S ⟨j, mv, mp⟩ W HS3.out hW)
            have HS3' := Lib.hid ((showL_len S ⟨j, mv, mp⟩).trans HS3.out)
            generalize showL S ⟨j, mv, mp⟩ = T at T1 D1 F1 HS3'
            have B0 := Lib.hid (Below.refl wr.heap.size wr)
            go_wp2_with (first | (go_at_call 19; refine (C4.out _ _ _ HA.out.1).mono ?_; rintro e w6 ⟨A6, c6, rfl, o6, b6⟩; have O6 := Lib.hid o6; have B6 := Lib.hid b6; clear o6 b6))
            have BX := Lib.hid B6.out
            obtain ⟨g', e', hge', hlt', r0, r1⟩ := own_getS (HW8.out.below BX.out) j x HX.out
            obtain rfl : g = g' := by injection e' with e'; injection e'
            clear e'
            have f0 := (HW8.out.below BX.out).free (j * 2)
            have f1 := (HW8.out.below BX.out).free (j * 2 + 1)
            have hne : g ≠ w6.heap.size := by omega
            have hne2 : w6.heap.size ≠ g := by omega
            have hgw : g < wr.heap.size := (own_at0 HW8.out).2.2
            have hL6 : Hid (Off A6 g) := Lib.hid (off_own O6.out (by omega))
            by_cases hv' : x.v < mv
            · have hv : decide (x.v < mv) = true := decide_eq_true hv'
              have T2 := Lib.hid (T1.out.trans (if_pos hv'))
              clear T1
              go_quiet (fail)
              go_wp2_with (go_at_call 22; refine (F1.out _ _ _ ?_).mono ?_; (exact At.set_far (At.set_far (((HSA.out.1.below BX.out).below (below_alloc (Below.refl _ _) _)).drewN nq) HSA.out.2 _) HSA.out.2 _); rintro e w7 ⟨A9, c9, rfl, o9, b9⟩; have O9 := Lib.hid o9; have B9 := Lib.hid b9; clear o9 b9)
              have NS : Hid (dS.At w7 A7 c7 S) := En.At.below (At.set_far (At.set_far (((HSA.out.1.below BX.out).below (below_alloc (Below.refl _ _) _)).drewN nq) HSA.out.2 _) HSA.out.2 _) B9.out
              have NT := Lib.hid O9.out.at_
              have NL : Hid (dM.At w7 A6 c6 L') := En.At.below (At.set_far (At.set_far ((O6.out.at_.below (below_alloc (Below.refl _ _) _)).drewN nq) hL6.out _) hL6.out _) B9.out
              have NW : Hid (dS.Own 44 w7 (w2.heap.size + 1) (some ⟨g, 0, none⟩) c8 T) := by rw [T2.out]; exact (own_setS (((HW8.out.below BX.out).below (below_alloc (Below.refl _ _) _)).drewN nq) j (by have := HS3.out; omega) ⟨mv, mp⟩).below B9.out
              have NB : Hid (Below w.heap.size w w7) := below_step (below_set (below_set (below_drewN (below_alloc (below_step HB.out BX.out) _) nq) hwg _) hwg _) B9.out
              have hT9 : Hid (Off A9 g) := Lib.hid (off_own O9.out (by simp; omega))
              clear r0 r1 f0 f1 hv
              go_loopw [17] (fun kk wr2 => ∃ (q m : Nat), q ≤ 3 ∧ kk = .int .i64 q ∧ wr2 = w7.drewN m) (fun kk _ => 3 - (intOf kk).toNat)
              case atStart => exact ⟨0, 0, Nat.zero_le _, rfl, rfl⟩
              case round =>
                obtain ⟨q, mq, hq3, rfl, rfl⟩ := hrel
                by_cases hlt3 : q < 3
                · have ex : S[q]? = some (S[q]'(by have := HS3.out; omega)) := List.getElem?_eq_getElem _
                  have ey : T[q]? = some (T[q]'(by have := HS3'.out; omega)) := List.getElem?_eq_getElem _
                  have hle := D1.out q _ _ ex ey
                  obtain ⟨bs, os, rfl, hbs, cs0, cs1⟩ := at_getS NS.out q _ ex
                  obtain ⟨bt, ot, rfl, hbt, ct0, ct1⟩ := at_getS NT.out q _ ey
                  generalize S[q]'(by have := HS3.out; omega) = x1 at cs0 cs1 hle ex
                  generalize T[q]'(by have := HS3'.out; omega) = y1 at ct0 ct1 hle ey
                  have hge1 : decide (y1.v < x1.v) = false := decide_eq_false (Int.not_lt.2 hle)
                  clear ex ey cs1 ct1 hle
                  go_wp2_with fail
                  go_quiet (fail)
                  go_wp2
                  refine ⟨⟨q + 1, mq + nq, by omega, by go_num, by go_simp⟩, ?_⟩
                  simp [intOf]; omega
                · obtain rfl : q = 3 := by omega
                  go_wp2
                  refine ⟨⟨i + 1, p, A6, A9, c6, c9, L', T, by omega, by go_num, rfl, rfl, HL', ⟨by omega, by omega⟩, HM', HS3', ⟨NL.out.drewN mq, fun _ => hL6.out⟩, ⟨NT.out.drewN mq, hT9.out⟩, NW.out.drewN mq, below_drewN NB.out mq⟩, ?_⟩
                  simp [intOf]; omega
            · have hv : decide (x.v < mv) = false := decide_eq_false hv'
              have T2 := Lib.hid (T1.out.trans (if_neg hv'))
              clear T1 hv'
              go_quiet (fail)
              go_wp2_with (go_at_call 22; refine (F1.out _ _ _ ?_).mono ?_; (exact ((HSA.out.1.below BX.out).below (below_alloc (Below.refl _ _) _)).drewN nq); rintro e w7 ⟨A9, c9, rfl, o9, b9⟩; have O9 := Lib.hid o9; have B9 := Lib.hid b9; clear o9 b9)
              have NS : Hid (dS.At w7 A7 c7 S) := En.At.below (((HSA.out.1.below BX.out).below (below_alloc (Below.refl _ _) _)).drewN nq) B9.out
              have NT := Lib.hid O9.out.at_
              have NL : Hid (dM.At w7 A6 c6 L') := En.At.below ((O6.out.at_.below (below_alloc (Below.refl _ _) _)).drewN nq) B9.out
              have NW : Hid (dS.Own 44 w7 (w2.heap.size + 1) (some ⟨g, 0, none⟩) c8 T) := by rw [T2.out]; exact (((HW8.out.below BX.out).below (below_alloc (Below.refl _ _) _)).drewN nq).below B9.out
              have NB : Hid (Below w.heap.size w w7) := below_step (below_drewN (below_alloc (below_step HB.out BX.out) _) nq) B9.out
              have hT9 : Hid (Off A9 g) := Lib.hid (off_own O9.out (by simp; omega))
              clear r0 r1 f0 f1 hv
              go_loopw [17] (fun kk wr2 => ∃ (q m : Nat), q ≤ 3 ∧ kk = .int .i64 q ∧ wr2 = w7.drewN m) (fun kk _ => 3 - (intOf kk).toNat)
              case atStart => exact ⟨0, 0, Nat.zero_le _, rfl, rfl⟩
              case round =>
                obtain ⟨q, mq, hq3, rfl, rfl⟩ := hrel
                by_cases hlt3 : q < 3
                · have ex : S[q]? = some (S[q]'(by have := HS3.out; omega)) := List.getElem?_eq_getElem _
                  have ey : T[q]? = some (T[q]'(by have := HS3'.out; omega)) := List.getElem?_eq_getElem _
                  have hle := D1.out q _ _ ex ey
                  obtain ⟨bs, os, rfl, hbs, cs0, cs1⟩ := at_getS NS.out q _ ex
                  obtain ⟨bt, ot, rfl, hbt, ct0, ct1⟩ := at_getS NT.out q _ ey
                  generalize S[q]'(by have := HS3.out; omega) = x1 at cs0 cs1 hle ex
                  generalize T[q]'(by have := HS3'.out; omega) = y1 at ct0 ct1 hle ey
                  have hge1 : decide (y1.v < x1.v) = false := decide_eq_false (Int.not_lt.2 hle)
                  clear ex ey cs1 ct1 hle
                  go_wp2_with fail
                  go_quiet (fail)
                  go_wp2
                  refine ⟨⟨q + 1, mq + nq, by omega, by go_num, by go_simp⟩, ?_⟩
                  simp [intOf]; omega
                · obtain rfl : q = 3 := by omega
                  go_wp2
                  refine ⟨⟨i + 1, p, A6, A9, c6, c9, L', T, by omega, by go_num, rfl, rfl, HL', ⟨by omega, by omega⟩, HM', HS3', ⟨NL.out.drewN mq, fun _ => hL6.out⟩, ⟨NT.out.drewN mq, hT9.out⟩, NW.out.drewN mq, below_drewN NB.out mq⟩, ?_⟩
                  simp [intOf]; omega
        · have g3 : ((i : Int) % 3 == 1) = false := by simp; omega
          clear h3
          have hm : L[0]? = some (L[0]'(by have := HL.out; omega)) := List.getElem?_eq_getElem _
          have hsmm := HM.out _ (List.getElem_mem (l := L) (n := 0) (by have := HL.out; omega))
          generalize L[0]'(by have := HL.out; omega) = m at hm hsmm
          obtain ⟨s0, s3, v0, v9, p1, p9⟩ := hsmm
          obtain ⟨ms, mv, mp⟩ := m
          obtain ⟨j, rfl⟩ : ∃ j : Nat, ms = j := ⟨ms.toNat, by have h : 0 ≤ ms := s0; omega⟩
          have hj : j < 3 := by have h : (j : Int) < 3 := s3; omega
          have hsmm : Hid (Small ⟨j, mv, mp⟩) := ⟨s0, s3, v0, v9, p1, p9⟩
          clear s0 s3 v0 v9 p1 p9
          have HMM := Lib.hid hm
          clear hm
          have C4 : Hid (∀ A c W, dM.At W A c L → Calls Try.prog 19 #[.slice A (p + 1) c, .int .i64 0] W (TookN W ⟨j, mv, mp⟩ (L.eraseIdx 0) p)) := Lib.hid (fun A c W hW => take_n A c 0 p L _ ⟨j, mv, mp⟩ HL.out HMM.out rfl (by have := HQ.out.2; omega) W hW)
          have HL' : Hid ((L.eraseIdx 0).length = p) := Lib.hid (by rw [List.length_eraseIdx, if_pos (by have := HL.out; omega), HL.out]; rfl)
          have HM' := Lib.hid (small_erase HM.out 0)
          generalize L.eraseIdx 0 = L' at C4 HL' HM'
          have hx : S[j]? = some (S[j]'(by have := HS3.out; omega)) := List.getElem?_eq_getElem _
          generalize S[j]'(by have := HS3.out; omega) = x at hx
          have HX := Lib.hid hx
          clear hx
          have T1 := Lib.hid (showL_in S ⟨j, mv, mp⟩ j (by have := HS3.out; omega) rfl x HX.out)
          have D1 := Lib.hid (fun k x y => showL_up S ⟨j, mv, mp⟩ k x y)
          have F1 := Lib.hid (fun A c W hW => show3 A c S ⟨j, mv, mp⟩ W HS3.out hW)
          have HS3' := Lib.hid ((showL_len S ⟨j, mv, mp⟩).trans HS3.out)
          generalize showL S ⟨j, mv, mp⟩ = T at T1 D1 F1 HS3'
          have B0 := Lib.hid (Below.refl wr.heap.size wr)
          go_wp2_with (first | (go_at_call 19; refine (C4.out _ _ _ HA.out.1).mono ?_; rintro e w6 ⟨A6, c6, rfl, o6, b6⟩; have O6 := Lib.hid o6; have B6 := Lib.hid b6; clear o6 b6))
          have BX := Lib.hid B6.out
          obtain ⟨g', e', hge', hlt', r0, r1⟩ := own_getS (HW8.out.below BX.out) j x HX.out
          obtain rfl : g = g' := by injection e' with e'; injection e'
          clear e'
          have f0 := (HW8.out.below BX.out).free (j * 2)
          have f1 := (HW8.out.below BX.out).free (j * 2 + 1)
          have hne : g ≠ w6.heap.size := by omega
          have hne2 : w6.heap.size ≠ g := by omega
          have hgw : g < wr.heap.size := (own_at0 HW8.out).2.2
          have hL6 : Hid (Off A6 g) := Lib.hid (off_own O6.out (by omega))
          by_cases hv' : x.v < mv
          · have hv : decide (x.v < mv) = true := decide_eq_true hv'
            have T2 := Lib.hid (T1.out.trans (if_pos hv'))
            clear T1
            go_quiet (fail)
            go_wp2_with (go_at_call 22; refine (F1.out _ _ _ ?_).mono ?_; (exact At.set_far (At.set_far (((HSA.out.1.below BX.out).below (below_alloc (Below.refl _ _) _)).drewN nq) HSA.out.2 _) HSA.out.2 _); rintro e w7 ⟨A9, c9, rfl, o9, b9⟩; have O9 := Lib.hid o9; have B9 := Lib.hid b9; clear o9 b9)
            have NS : Hid (dS.At w7 A7 c7 S) := En.At.below (At.set_far (At.set_far (((HSA.out.1.below BX.out).below (below_alloc (Below.refl _ _) _)).drewN nq) HSA.out.2 _) HSA.out.2 _) B9.out
            have NT := Lib.hid O9.out.at_
            have NL : Hid (dM.At w7 A6 c6 L') := En.At.below (At.set_far (At.set_far ((O6.out.at_.below (below_alloc (Below.refl _ _) _)).drewN nq) hL6.out _) hL6.out _) B9.out
            have NW : Hid (dS.Own 44 w7 (w2.heap.size + 1) (some ⟨g, 0, none⟩) c8 T) := by rw [T2.out]; exact (own_setS (((HW8.out.below BX.out).below (below_alloc (Below.refl _ _) _)).drewN nq) j (by have := HS3.out; omega) ⟨mv, mp⟩).below B9.out
            have NB : Hid (Below w.heap.size w w7) := below_step (below_set (below_set (below_drewN (below_alloc (below_step HB.out BX.out) _) nq) hwg _) hwg _) B9.out
            have hT9 : Hid (Off A9 g) := Lib.hid (off_own O9.out (by simp; omega))
            clear r0 r1 f0 f1 hv
            go_loopw [17] (fun kk wr2 => ∃ (q m : Nat), q ≤ 3 ∧ kk = .int .i64 q ∧ wr2 = w7.drewN m) (fun kk _ => 3 - (intOf kk).toNat)
            case atStart => exact ⟨0, 0, Nat.zero_le _, rfl, rfl⟩
            case round =>
              obtain ⟨q, mq, hq3, rfl, rfl⟩ := hrel
              by_cases hlt3 : q < 3
              · have ex : S[q]? = some (S[q]'(by have := HS3.out; omega)) := List.getElem?_eq_getElem _
                have ey : T[q]? = some (T[q]'(by have := HS3'.out; omega)) := List.getElem?_eq_getElem _
                have hle := D1.out q _ _ ex ey
                obtain ⟨bs, os, rfl, hbs, cs0, cs1⟩ := at_getS NS.out q _ ex
                obtain ⟨bt, ot, rfl, hbt, ct0, ct1⟩ := at_getS NT.out q _ ey
                generalize S[q]'(by have := HS3.out; omega) = x1 at cs0 cs1 hle ex
                generalize T[q]'(by have := HS3'.out; omega) = y1 at ct0 ct1 hle ey
                have hge1 : decide (y1.v < x1.v) = false := decide_eq_false (Int.not_lt.2 hle)
                clear ex ey cs1 ct1 hle
                go_wp2_with fail
                go_quiet (fail)
                go_wp2
                refine ⟨⟨q + 1, mq + nq, by omega, by go_num, by go_simp⟩, ?_⟩
                simp [intOf]; omega
              · obtain rfl : q = 3 := by omega
                go_wp2
                refine ⟨⟨i + 1, p, A6, A9, c6, c9, L', T, by omega, by go_num, rfl, rfl, HL', ⟨by omega, by omega⟩, HM', HS3', ⟨NL.out.drewN mq, fun _ => hL6.out⟩, ⟨NT.out.drewN mq, hT9.out⟩, NW.out.drewN mq, below_drewN NB.out mq⟩, ?_⟩
                simp [intOf]; omega
          · have hv : decide (x.v < mv) = false := decide_eq_false hv'
            have T2 := Lib.hid (T1.out.trans (if_neg hv'))
            clear T1 hv'
            go_quiet (fail)
            go_wp2_with (go_at_call 22; refine (F1.out _ _ _ ?_).mono ?_; (exact ((HSA.out.1.below BX.out).below (below_alloc (Below.refl _ _) _)).drewN nq); rintro e w7 ⟨A9, c9, rfl, o9, b9⟩; have O9 := Lib.hid o9; have B9 := Lib.hid b9; clear o9 b9)
            have NS : Hid (dS.At w7 A7 c7 S) := En.At.below (((HSA.out.1.below BX.out).below (below_alloc (Below.refl _ _) _)).drewN nq) B9.out
            have NT := Lib.hid O9.out.at_
            have NL : Hid (dM.At w7 A6 c6 L') := En.At.below ((O6.out.at_.below (below_alloc (Below.refl _ _) _)).drewN nq) B9.out
            have NW : Hid (dS.Own 44 w7 (w2.heap.size + 1) (some ⟨g, 0, none⟩) c8 T) := by rw [T2.out]; exact (((HW8.out.below BX.out).below (below_alloc (Below.refl _ _) _)).drewN nq).below B9.out
            have NB : Hid (Below w.heap.size w w7) := below_step (below_drewN (below_alloc (below_step HB.out BX.out) _) nq) B9.out
            have hT9 : Hid (Off A9 g) := Lib.hid (off_own O9.out (by simp; omega))
            clear r0 r1 f0 f1 hv
            go_loopw [17] (fun kk wr2 => ∃ (q m : Nat), q ≤ 3 ∧ kk = .int .i64 q ∧ wr2 = w7.drewN m) (fun kk _ => 3 - (intOf kk).toNat)
            case atStart => exact ⟨0, 0, Nat.zero_le _, rfl, rfl⟩
            case round =>
              obtain ⟨q, mq, hq3, rfl, rfl⟩ := hrel
              by_cases hlt3 : q < 3
              · have ex : S[q]? = some (S[q]'(by have := HS3.out; omega)) := List.getElem?_eq_getElem _
                have ey : T[q]? = some (T[q]'(by have := HS3'.out; omega)) := List.getElem?_eq_getElem _
                have hle := D1.out q _ _ ex ey
                obtain ⟨bs, os, rfl, hbs, cs0, cs1⟩ := at_getS NS.out q _ ex
                obtain ⟨bt, ot, rfl, hbt, ct0, ct1⟩ := at_getS NT.out q _ ey
                generalize S[q]'(by have := HS3.out; omega) = x1 at cs0 cs1 hle ex
                generalize T[q]'(by have := HS3'.out; omega) = y1 at ct0 ct1 hle ey
                have hge1 : decide (y1.v < x1.v) = false := decide_eq_false (Int.not_lt.2 hle)
                clear ex ey cs1 ct1 hle
                go_wp2_with fail
                go_quiet (fail)
                go_wp2
                refine ⟨⟨q + 1, mq + nq, by omega, by go_num, by go_simp⟩, ?_⟩
                simp [intOf]; omega
              · obtain rfl : q = 3 := by omega
                go_wp2
                refine ⟨⟨i + 1, p, A6, A9, c6, c9, L', T, by omega, by go_num, rfl, rfl, HL', ⟨by omega, by omega⟩, HM', HS3', ⟨NL.out.drewN mq, fun _ => hL6.out⟩, ⟨NT.out.drewN mq, hT9.out⟩, NW.out.drewN mq, below_drewN NB.out mq⟩, ?_⟩
                simp [intOf]; omega
end Go.Proofs.Ytkmmiiaadoinpaa.Mar
