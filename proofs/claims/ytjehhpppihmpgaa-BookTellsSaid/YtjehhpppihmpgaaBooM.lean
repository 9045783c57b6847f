/- BookTwice. -/
import Derived.Test.YtjehhpppihmpgaaBooL
namespace Go.Proofs.Ytjehhpppihmpgaa.Boo
open Go.RowKit Go.Proofs.Ytjehhpppihmpgaa.Mem

theorem fr_a (s : ByteArray) (n : Int) (W : World) (hs : nameB s = true) (hz : s.size ≤ 12) (h1 : 1 ≤ n) (h2 : n ≤ 100000) : Calls Try.prog 23 #[.slice none 0 0, .string s, .int .i64 n] W (MadeF W [⟨s, n⟩] 1 true 0) :=
  fresh_new none 0 0 [] rfl s n W En.At.none_ (by decide) (by omega) (okF_of hs (by omega) (by omega)) (.inl rfl) true rfl
theorem fr_b (s t : ByteArray) (n : Int) (hs : nameB t = true) (hz : t.size ≤ 12) (h1 : 1 ≤ n) (h2 : n ≤ 100000) :
    ∃ (L : List Seen) (m : Nat) (x : Seen), L.length = m ∧ m ≤ 2 ∧ fI (soN s) L = (0 : Nat) ∧ L[0]? = some x ∧ n ≤ x.n ∧ x.n ≤ n + 1 ∧
      ∀ (A : Option Addr) (c : Nat) (W : World) (a : Int), a = n + 1 → dN.At W A c [⟨s, n⟩] → Calls Try.prog 23 #[.slice A 1 c, .string t, .int .i64 a] W (MadeF W L m true 0) := by
  cases hst : eqS s t with
  | true =>
    have e := eqS_eq hst
    subst e
    refine ⟨[⟨s, n + 1⟩], 1, ⟨s, n + 1⟩, rfl, by omega, fI_one (eqS_self s), rfl, by show n ≤ n + 1; omega, Int.le_refl _, fun A c W a ha h => ?_⟩
    subst ha
    have hf : fI (soN s) [⟨s, n⟩] = 0 := fI_one (eqS_self s)
    have := fresh_new A c 1 [⟨s, n⟩] rfl s (n + 1) W h (by decide) (by omega) (okF_of hs (by omega) (by omega)) (.inr ⟨0, ⟨s, n⟩, hf, rfl, by show n < n + 1; omega⟩) true (by unfold putB; rw [hf]; rfl)
    unfold putL at this
    rw [hf] at this
    exact this
  | false =>
    refine ⟨[⟨s, n⟩, ⟨t, n + 1⟩], 2, ⟨s, n⟩, rfl, by omega, fI_one (eqS_self s), rfl, Int.le_refl _, by show n ≤ n + 1; omega, fun A c W a ha h => ?_⟩
    subst ha
    have hf : fI (soN t) [⟨s, n⟩] = -1 := by
      unfold fI
      rw [List.findIdx?_cons, show soN t ⟨s, n⟩ = false from hst]
      rfl
    have := fresh_new A c 1 [⟨s, n⟩] rfl t (n + 1) W h (by decide) (by omega) (okF_of hs (by omega) (by omega)) (.inl hf) true (by unfold putB; rw [hf]; rfl)
    unfold putL at this
    rw [hf] at this
    exact this
theorem fr_old (L : List Seen) (m : Nat) (x : Seen) (hm : L.length = m) (hm2 : m ≤ 2) (s : ByteArray) (n : Int) (hs : nameB s = true) (hz : s.size ≤ 12) (hf : fI (soN s) L = (0 : Nat)) (hx : L[0]? = some x) (h1 : 1 ≤ n) (h2 : n ≤ x.n) (h3 : n ≤ 100000) (A : Option Addr) (c : Nat) (W : World) (h : dN.At W A c L) :
    Calls Try.prog 23 #[.slice A m c, .string s, .int .i64 n] W (MadeF W L m false 0) :=
  fresh_old A c m 0 L hm s n x W h (by omega) (by omega) (okF_of hs h1 (by omega)) hf hx h2
theorem fr_next (L : List Seen) (m : Nat) (x : Seen) (hm : L.length = m) (hm2 : m ≤ 2) (s : ByteArray) (n : Int) (hs : nameB s = true) (hz : s.size ≤ 12) (hf : fI (soN s) L = (0 : Nat)) (hx : L[0]? = some x) (h1 : 1 ≤ n) (h2 : x.n < n) (h3 : n ≤ 100000) (A : Option Addr) (c : Nat) (W : World) (h : dN.At W A c L) :
    Calls Try.prog 23 #[.slice A m c, .string s, .int .i64 n] W (MadeF W (putL (soN s) ⟨s, n⟩ 8 L) (putL (soN s) ⟨s, n⟩ 8 L).length true 0) :=
  fresh_new A c m L hm s n W h (by omega) (by omega) (okF_of hs h1 (by omega)) (.inr ⟨0, x, hf, hx, h2⟩) true (by unfold putB; rw [hf]; rfl)
theorem sell (n : Int) (hn : I64 n) : ∃ s : ByteArray, nameB s = true ∧ s.size ≤ 12 ∧ ∀ W, Calls Try.prog 12 #[.int .i64 n] W (Ret (.string s) W) := by
  have hb := pick_bd n 60 (by decide)
  exact ⟨sellerB (pickI n 60).toNat, name_seller _ (by omega), size_sellers _ (by omega), fun W => seller_pick _ (by omega) n hn (by omega) W⟩
theorem twice_any (one two seq less : Int) (ho : I64 one) (ht : I64 two) (hq : I64 seq) (hl : I64 less) (w : World) : Calls Try.prog 7 #[.int .i64 one, .int .i64 two, .int .i64 seq, .int .i64 less] w (Ret (.bool true) w) := by
  obtain ⟨s, hs, hsz, HS⟩ := sell one ho
  obtain ⟨t, hts, htz, HT⟩ := sell two ht
  have hb := pick_bd seq 1000 (by decide)
  have HP := Lib.hid (fun W => pick13_any seq 1000 W hq (by decide))
  generalize pickI seq 1000 = p at hb HP
  obtain ⟨hp0, hp1⟩ := hb
  have HL : Hid (∀ (a : Int) (W : World), a = 1 + p → Calls Try.prog 13 #[.int .i64 less, .int .i64 a] W fun e w' => e = .returned (.int .i64 (pickI less (1 + p))) ∧ W = w') := Lib.hid (fun a W ha => by subst ha; exact pick13_any less (1 + p) W hl (by omega))
  have hb2 := pick_bd less (1 + p) (by omega)
  generalize pickI less (1 + p) = q at hb2 HL
  obtain ⟨hq0, hq1⟩ := hb2
  obtain ⟨L, m, x, hm, hm2, hf, hx, hx1, hx2, HB⟩ := fr_b s t (2 + p) hts htz (by omega) (by omega)
  have FA := Lib.hid (fun (a : Int) (W : World) (ha : a = 2 + p) => fr_a s a W hs hsz (by omega) (by omega))
  have FB := Lib.hid HB
  have FC := Lib.hid (fun (A : Option Addr) (c : Nat) (W : World) (a : Int) (ha : 1 ≤ a ∧ a ≤ 2 + p) (h : dN.At W A c L) => fr_old L m x hm hm2 s a hs hsz hf hx ha.1 (by omega) (by omega) A c W h)
  have FE := Lib.hid (fun (A : Option Addr) (c : Nat) (W : World) (a : Int) (ha : a = 2 + p + 2) (h : dN.At W A c L) => fr_next L m x hm hm2 s a hs hsz hf hx (by omega) (by omega) (by omega) A c W h)
  have FS := Lib.hid (fun (A B : Option Addr) (c k : Nat) (W : World) (h : dN.At W A c L) (h' : dN.At W B k L) => sameN_yes A B c k m L hm W h h')
  have HS2 := Lib.hid HS
  have HT2 := Lib.hid HT
  clear HB HS HT hf hx hm hx1 hx2 hs hts hsz htz ho ht hq hl
  go_enter Try.func7, Try.ntmps7
  go_wp2_with (first
    | (go_at_call 10; refine (awake_any _).mono ?_; rintro e w1 ⟨rfl, hbel⟩; have B1 := Lib.hid hbel; clear hbel)
    | (go_at_call 12; have Z := B2; refine (HT2.out _).mono ?_; rintro e w3 ⟨rfl, hbel⟩; have B3 := Lib.hid (below_step B2.out hbel); clear hbel)
    | (go_at_call 12; refine (HS2.out _).mono ?_; rintro e w2 ⟨rfl, hbel⟩; have B2 := Lib.hid (below_step B1.out hbel); clear hbel)
    | (go_at_call 13; have Z := B6; refine (HL.out _ _ (by omega)).mono ?_; rintro e w' ⟨rfl, rfl⟩)
    | (go_at_call 13; refine (HP.out _).mono ?_; rintro e w' ⟨rfl, rfl⟩)
    | (go_at_call 23; have Z := B7; refine (FE.out _ _ _ _ (by omega) C7.out).mono ?_; rintro e w8 ⟨A8, c8, rfl, hat, hbel⟩; have B8 := Lib.hid (below_step B7.out hbel); have D8 := Lib.hid (D7.out.below hbel); have C8 := Lib.hid (C7.out.below hbel); clear hat hbel)
    | (go_at_call 23; have Z := B6; refine (FC.out _ _ _ _ (by omega) C6'.out).mono ?_; rintro e w7 ⟨A7, c7, rfl, hat, hbel⟩; have B7 := Lib.hid (below_step B6.out hbel); have D7 := Lib.hid (D6.out.below hbel); have C7 := Lib.hid (C6'.out.below hbel); clear hat hbel)
    | (go_at_call 23; have Z := B5; refine (FC.out _ _ _ _ (by omega) D5.out).mono ?_; rintro e w6 ⟨A6, c6, rfl, hat, hbel⟩; have B6 := Lib.hid (below_step B5.out hbel); have D6 := Lib.hid (D5.out.below hbel); have C6' := Lib.hid hat; clear hat hbel)
    | (go_at_call 23; have Z := B4; refine (FB.out _ _ _ _ (by omega) D4.out).mono ?_; rintro e w5 ⟨A5, c5, rfl, hat, hbel⟩; have B5 := Lib.hid (below_step B4.out hbel); have D5 := Lib.hid hat; clear hat hbel)
    | (go_at_call 23; refine (FA.out _ _ (by omega)).mono ?_; rintro e w4 ⟨A4, c4, rfl, hat, hbel⟩; have B4 := Lib.hid (below_step B3.out hbel); have D4 := Lib.hid hat; clear hat hbel; have e4 : Hid (FA = FA) := Lib.hid rfl)
    | (go_at_call 25; refine (FS.out _ _ _ _ _ D8.out C8.out).mono ?_; rintro e w9 ⟨rfl, hbel⟩; have B9 := Lib.hid (below_step B8.out hbel); clear hbel))
  go_ret
  exact ⟨rfl, B9.out⟩
end Go.Proofs.Ytjehhpppihmpgaa.Boo
