/- MarketFull: its walk. -/
import Derived.Test.YtkmmiiaadoinpaaMarJ
namespace Go.Proofs.Ytkmmiiaadoinpaa.Mar
open Go.RowKit Go.Proofs.Ytkmmiiaadoinpaa.Mem

theorem full_room (A : Option Addr) (c j : Nat) (m : Mail) (W : World) (hj : j < 100) (h : dM.At W A c (List.replicate j m)) : Calls Try.prog 11 #[.slice A j c, .agg #[.int .i64 m.s, .int .i64 m.v, .int .i64 m.p]] W (IsN W (List.replicate (j + 1) m) (j + 1) 0) := by
  have hl : (List.replicate j m).length = j := List.length_replicate
  have k := post_any A c _ m W h (by rw [hl]; omega)
  unfold postL postE at k
  rw [hl, if_neg (by omega), if_neg (by omega), ← List.replicate_succ'] at k
  refine k.mono fun e w' ⟨A', c', he, ho, hb⟩ => ⟨A', c', ?_, ho, hb⟩
  rw [he, List.length_replicate]
theorem full_full (A : Option Addr) (c : Nat) (m : Mail) (W : World) (h : dM.At W A c (List.replicate 100 m)) : Calls Try.prog 11 #[.slice A 100 c, .agg #[.int .i64 m.s, .int .i64 m.v, .int .i64 m.p]] W (IsN W (List.replicate 100 m) 100 50) := by
  have hl : (List.replicate 100 m).length = 100 := List.length_replicate
  have k := post_any A c _ m W h (by rw [hl]; omega)
  unfold postL postE at k
  rw [hl, if_pos (by omega), if_pos (by omega)] at k
  refine k.mono fun e w' ⟨A', c', he, ho, hb⟩ => ⟨A', c', ?_, ho, hb⟩
  rw [he, List.length_replicate]
theorem full_copy (A : Option Addr) (c j : Nat) (m : Mail) (W : World) (hj : j ≤ 100) (n : Int) (hn : (j = 0 ∧ n = 1) ∨ (0 < j ∧ j < 100 ∧ n = 0) ∨ (j = 100 ∧ n = 50)) (h : dM.At W A c (List.replicate j m)) : Calls Try.prog 15 #[.slice A j c, .int .i64 0] W fun e w' => ∃ v, e = .returned (.tuple #[v, .int .i64 n]) ∧ Below W.heap.size W w' := by
  have hl : (List.replicate j m).length = j := List.length_replicate
  have k := copy_any A c _ 0 W h (by rw [hl]; omega)
  have hn' : copyE (List.replicate j m) 0 = n := by
    unfold copyE postE here
    rw [hl]
    rcases hn with ⟨h1, h2⟩ | ⟨h1, h3, h2⟩ | ⟨h1, h2⟩
    · rw [h2, if_neg (by simp; omega)]
    · rw [h2, if_pos (by simp; omega), if_neg (by omega)]
    · rw [h2, if_pos (by simp; omega), if_pos (by omega)]
  rw [hl, hn'] at k
  exact k.mono fun e w' ⟨A', c', he, ho, hb⟩ => ⟨_, he, hb⟩

set_option maxHeartbeats 2000000 in
theorem full_any (n : Int) (m : Mail) (w : World) (h : -9223372036854775808 ≤ n) (h' : n ≤ 9223372036854775807) : Calls Try.prog 4 #[.int .i64 n, .agg #[.int .i64 m.s, .int .i64 m.v, .int .i64 m.p]] w fun e w' => e = .returned (.bool true) ∧ Below w.heap.size w w' := by
  obtain ⟨hp0, hp1⟩ := pick_bd n 104 (by omega)
  have HP := Lib.hid (fun W => pick_any n 104 W h h' (by omega))
  generalize pickI n 104 = P0 at hp0 hp1 HP
  obtain ⟨P, rfl⟩ : ∃ P : Nat, P0 = P := ⟨P0.toNat, by omega⟩
  have hP : P < 104 := by omega
  clear h h' hp0 hp1
  go_enter Try.func4, Try.ntmps4
  go_wp2_with (first
    | (go_at_call 9; refine (awake_any _).mono ?_; rintro e w1 ⟨rfl, b1⟩; have B1 := Lib.hid b1; clear b1)
    | (go_at_call 14; refine (HP.out _).mono ?_; rintro e w2 ⟨rfl, rfl⟩))
  go_loopw [7, 8] (fun v kk wr => ∃ (k j : Nat) (A : Option Addr) (c : Nat), k ≤ P ∧ kk = .int .i64 k ∧ v = .slice A j c ∧ ((k < 100 ∧ j = k) ∨ (100 ≤ k ∧ j = 100)) ∧ Hid (dM.At wr A c (List.replicate j m)) ∧ Hid (Below w.heap.size w wr) ∧ Hid (Box wr w.heap.size m)) (fun _ kk _ => P - (intOf kk).toNat)
  case atStart => exact ⟨0, 0, none, 0, Nat.zero_le _, rfl, rfl, .inl ⟨by omega, rfl⟩, En.At.none_, below_step (below_alloc (Below.refl _ _) _) B1.out, (Box.new w m).below B1.out⟩
  case round =>
    obtain ⟨k, j, A, c, hk, rfl, rfl, hj, HA, HB, HX⟩ := hrel
    have c0 := HX.out.c0
    have c1 := HX.out.c1
    have c2 := HX.out.c2
    by_cases hlt : k < P
    · rcases hj with ⟨h1, rfl⟩ | ⟨h1, rfl⟩
      · have g1 : decide ((j : Int) < 100) = true := decide_eq_true (by omega)
        go_wp2_with (go_at_call 11; refine (full_room A c j m _ h1 HA.out).mono ?_; rintro e w3 ⟨A3, c3, rfl, o3, b3⟩; have O3 := Lib.hid o3; have B3 := Lib.hid b3; clear o3 b3)
        refine ⟨⟨j + 1, j + 1, A3, c3, by omega, by go_num, rfl, by omega, O3.out.at_, below_step HB.out B3.out, HX.out.below B3.out⟩, ?_⟩
        simp [intOf]; omega
      · have g1 : decide ((k : Int) < 100) = false := decide_eq_false (by omega)
        go_wp2_with (go_at_call 11; refine (full_full A c m _ HA.out).mono ?_; rintro e w3 ⟨A3, c3, rfl, o3, b3⟩; have O3 := Lib.hid o3; have B3 := Lib.hid b3; clear o3 b3)
        refine ⟨⟨k + 1, 100, A3, c3, by omega, by go_num, rfl, by omega, O3.out.at_, below_step HB.out B3.out, HX.out.below B3.out⟩, ?_⟩
        simp [intOf]; omega
    · have hkP : k = P := by omega
      subst hkP
      by_cases h0 : k = 0
      · subst h0
        obtain rfl : j = 0 := by omega
        go_wp2_with (go_at_call 15; refine (full_copy A c 0 m _ (by omega) 1 (by omega) HA.out).mono ?_; rintro e w3 ⟨v, rfl, b3⟩; have B3 := Lib.hid b3; clear b3)
        go_ret
        exact ⟨rfl, below_step HB.out B3.out⟩
      · by_cases h1 : k < 100
        · obtain rfl : j = k := by omega
          go_wp2_with (go_at_call 15; refine (full_copy A c j m _ (by omega) 0 (by omega) HA.out).mono ?_; rintro e w3 ⟨v, rfl, b3⟩; have B3 := Lib.hid b3; clear b3)
          go_ret
          exact ⟨by (show Ending.returned (Value.bool (!decide (100 ≤ (j : Int)))) = _; rw [decide_eq_false (by omega)]; rfl), below_step HB.out B3.out⟩
        · obtain rfl : j = 100 := by omega
          go_wp2_with (go_at_call 15; refine (full_copy A c 100 m _ (by omega) 50 (by omega) HA.out).mono ?_; rintro e w3 ⟨v, rfl, b3⟩; have B3 := Lib.hid b3; clear b3)
          go_ret
          exact ⟨by (show Ending.returned (Value.bool (!decide ((k : Int) < 100))) = _; rw [decide_eq_false (by omega)]; rfl), below_step HB.out B3.out⟩
end Go.Proofs.Ytkmmiiaadoinpaa.Mar
