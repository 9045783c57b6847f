/- Names that are there; awake. -/
import Derived.Test.YtjehhpppihmpgaaBooK
namespace Go.Proofs.Ytjehhpppihmpgaa.Boo
open Go.RowKit Go.Proofs.Ytjehhpppihmpgaa.Mem
theorem eqS_data (a b : ByteArray) : eqS a b = (a.data.toList == b.data.toList) := by unfold eqS; simp [ByteArray.toList_eq]
def wordD (s : ByteArray) : Bool := W11.any fun x => s.data.toList == x.data.toList
theorem wordB_data (s : ByteArray) : wordB s = wordD s := by
  unfold wordB wordD
  congr 1
  funext x
  exact eqS_data s x
def nameD (s : ByteArray) : Bool := decide (0 < s.size) && decide (s.size ≤ 12) && letterB (s.data.toList.headD 0) && s.data.toList.all alnB && !wordD s
theorem nameB_data (s : ByteArray) : nameB s = nameD s := by unfold nameB nameD; rw [wordB_data]
theorem name_bob : nameB ⟨#[98, 111, 98]⟩ = true := by rw [nameB_data]; decide +kernel
theorem name_acme : nameB ⟨#[97, 99, 109, 101]⟩ = true := by rw [nameB_data]; decide +kernel
theorem name_if : nameB ⟨#[105, 102]⟩ = false := by rw [nameB_data]; decide +kernel
theorem name_sellers : ∀ k, k < 60 → nameD (sellerB k) = true := by decide +kernel
theorem name_seller (k : Nat) (h : k < 60) : nameB (sellerB k) = true := by rw [nameB_data]; exact name_sellers k h
theorem size_sellers : ∀ k, k < 60 → (sellerB k).size ≤ 12 := by decide +kernel

abbrev BOB : ByteArray := ⟨#[98, 111, 98]⟩
abbrev ACME : ByteArray := ⟨#[97, 99, 109, 101]⟩
abbrev IFS : ByteArray := ⟨#[105, 102]⟩
theorem fI_one {α : Type} {p : α → Bool} {x : α} {xs : List α} (h : p x = true) : fI p (x :: xs) = 0 := by unfold fI; rw [List.findIdx?_cons, h]; rfl
theorem fI_nil {α : Type} (p : α → Bool) : fI p [] = -1 := rfl
theorem okP_of {s : ByteArray} {p t : Int} (h : nameB s = true) (h1 : 1 ≤ p) (h2 : p ≤ 1000000000000) (h3 : 0 ≤ t) (h4 : t ≤ 1099511627776) : okP s p t = true := by
  unfold okP; rw [h, Bool.true_and]; exact decide_eq_true ⟨h1, h2, h3, h4⟩
theorem okF_of {s : ByteArray} {n : Int} (h : nameB s = true) (h1 : 1 ≤ n) (h2 : n ≤ 1000000000000) : okF s n = true := by
  unfold okF; rw [h, Bool.true_and]; exact decide_eq_true ⟨h1, h2⟩
theorem aw_put1 (W : World) : Calls Try.prog 14 #[.slice none 0 0, .string BOB, .int .i64 499, .int .i64 3] W (MadeE W [⟨BOB, 499, 3⟩] 1 0) := by
  have := put_any none 0 0 [] rfl BOB 499 3 W En.At.none_ (by decide) (by decide)
  unfold putX putE putL putB at this
  rw [if_pos (okP_of name_bob (by decide) (by decide) (by decide) (by decide)), if_pos (okP_of name_bob (by decide) (by decide) (by decide) (by decide))] at this
  exact this
theorem aw_put2 (A : Option Addr) (c : Nat) (W : World) (h : dL.At W A c [⟨BOB, 499, 3⟩]) : Calls Try.prog 14 #[.slice A 1 c, .string BOB, .int .i64 549, .int .i64 4] W (MadeE W [⟨BOB, 549, 4⟩] 1 0) := by
  have := put_any A c 1 [⟨BOB, 499, 3⟩] rfl BOB 549 4 W h (by decide) (by decide)
  unfold putX putE putL putB at this
  rw [if_pos (okP_of name_bob (by decide) (by decide) (by decide) (by decide)), if_pos (okP_of name_bob (by decide) (by decide) (by decide) (by decide)), fI_one (show soS BOB ⟨BOB, 499, 3⟩ = true from eqS_self _)] at this
  exact this
theorem aw_put3 (A : Option Addr) (c : Nat) (W : World) : Calls Try.prog 14 #[.slice A 1 c, .string IFS, .int .i64 1, .int .i64 1] W (MadeE W [] 0 1) :=
  put_bad A c 1 IFS 1 1 W (by decide) (by unfold okP; rw [name_if]; rfl)
theorem aw_fr1 (W : World) : Calls Try.prog 23 #[.slice none 0 0, .string ACME, .int .i64 5] W (MadeF W [⟨ACME, 5⟩] 1 true 0) :=
  fresh_new none 0 0 [] rfl ACME 5 W En.At.none_ (by decide) (by decide) (okF_of name_acme (by decide) (by decide)) (.inl rfl) true rfl
theorem aw_fr2 (A : Option Addr) (c : Nat) (W : World) (h : dN.At W A c [⟨ACME, 5⟩]) : Calls Try.prog 23 #[.slice A 1 c, .string ACME, .int .i64 5] W (MadeF W [⟨ACME, 5⟩] 1 false 0) :=
  fresh_old A c 1 0 [⟨ACME, 5⟩] rfl ACME 5 ⟨ACME, 5⟩ W h (by decide) (by decide) (okF_of name_acme (by decide) (by decide)) (fI_one (eqS_self _)) rfl (by decide)
theorem aw_drop (A : Option Addr) (c : Nat) (W : World) (h : dL.At W A c [⟨BOB, 549, 4⟩]) : Calls Try.prog 19 #[.slice A 1 c, .string BOB] W (MadeA dL W.heap.size W [] 0) := by
  have := drop_any A c 1 [⟨BOB, 549, 4⟩] rfl BOB W h (by decide)
  unfold dropL at this
  rw [fI_one (show soS BOB ⟨BOB, 549, 4⟩ = true from eqS_self _)] at this
  exact this
theorem aw_exp1 (A : Option Addr) (c : Nat) (W : World) (h : dL.At W A c [⟨BOB, 549, 4⟩]) : Calls Try.prog 17 #[.slice A 1 c, .int .i64 6, .int .i64 1] W (MadeA dL W.heap.size W [] 0) :=
  expire_any A c 1 [⟨BOB, 549, 4⟩] rfl 6 1 W h (by decide)
theorem aw_exp2 (A : Option Addr) (c : Nat) (W : World) (h : dL.At W A c [⟨BOB, 549, 4⟩]) : Calls Try.prog 17 #[.slice A 1 c, .int .i64 5, .int .i64 1] W (MadeA dL W.heap.size W [⟨BOB, 549, 4⟩] 1) :=
  expire_any A c 1 [⟨BOB, 549, 4⟩] rfl 5 1 W h (by decide)
theorem aw_off (A : Option Addr) (c : Nat) (W : World) (h : dL.At W A c [⟨BOB, 549, 4⟩]) : Calls Try.prog 21 #[.slice A 1 c] W (MadeA dF W.heap.size W [⟨BOB, 549⟩] 1) :=
  offers_any A c 1 [⟨BOB, 549, 4⟩] rfl W h (by decide)
theorem awake_any (w : World) : Calls Try.prog 10 #[] w (Ret (.bool true) w) := by
  have hq : ∀ W, (Op.equalIn 10000 50 (.agg #[.string BOB, .int .i64 549, .int .i64 4]) (.agg #[.string BOB, .int .i64 549, .int .i64 4])).run Try.prog W = .ok true W := fun W => by
    rw [eqA50 W ⟨BOB, 549, 4⟩ ⟨BOB, 549, 4⟩, (slotB_iff _ _).2 rfl]
  go_enter Try.func10, Try.ntmps10
  go_wp2_with (first
    | (go_at_call 14; have Z := HG; refine (aw_put3 _ _ _).mono ?_; rintro e w3 ⟨A3, c3, rfl, hat, hbel⟩; have HB3 := Lib.hid (below_step HB2.out hbel); have HG3 := Lib.hid (HG.out.below hbel); clear hat hbel)
    | (go_at_call 14; have Z := HA1; refine (aw_put2 _ _ _ HA1.out).mono ?_; rintro e w2 ⟨A2, c2, rfl, hat, hbel⟩; have HB2 := Lib.hid (below_step HB1.out hbel); have HG := Lib.hid hat; clear hat hbel)
    | (go_at_call 14; refine (aw_put1 _).mono ?_; rintro e w1 ⟨A1, c1, rfl, hat, hbel⟩; have HB1 := Lib.hid hbel; have HA1 := Lib.hid hat; clear hat hbel)
    | (go_at_call 23; have Z := HC; refine (aw_fr2 _ _ _ HC.out).mono ?_; rintro e w5 ⟨A5, c5, rfl, hat, hbel⟩; have HB5 := Lib.hid (below_step HB4.out hbel); have HG5 := Lib.hid (HG4.out.below hbel); obtain ⟨b, off, rfl, hbl, d0, d1, d2⟩ := at_getL HG5.out 0 _ rfl; rw [Nat.zero_mul, Nat.add_zero] at d0 d1 d2; have hle2 := HG5.out.le; have hmx2 := HG5.out.max; clear hat hbel)
    | (go_at_call 23; refine (aw_fr1 _).mono ?_; rintro e w4 ⟨A4, c4, rfl, hat, hbel⟩; have HB4 := Lib.hid (below_step HB3.out hbel); have HG4 := Lib.hid (HG3.out.below hbel); have HC := Lib.hid hat; clear hat hbel)
    | (go_at_call 19; refine (aw_drop _ _ _ HG5.out).mono ?_; rintro e w6 ⟨A6, c6, rfl, hat, hbel⟩; have HB6 := Lib.hid (below_step HB5.out hbel); have HG6 := Lib.hid (HG5.out.below hbel); clear hat hbel)
    | (go_at_call 17; have Z := HB7; refine (aw_exp2 _ _ _ HG7.out).mono ?_; rintro e w8 ⟨A8, c8, rfl, hat, hbel⟩; have HB8 := Lib.hid (below_step HB7.out hbel); have HG8 := Lib.hid (HG7.out.below hbel); clear hat hbel)
    | (go_at_call 17; refine (aw_exp1 _ _ _ HG6.out).mono ?_; rintro e w7 ⟨A7, c7, rfl, hat, hbel⟩; have HB7 := Lib.hid (below_step HB6.out hbel); have HG7 := Lib.hid (HG6.out.below hbel); clear hat hbel)
    | (go_at_call 21; refine (aw_off _ _ _ HG8.out).mono ?_; rintro e w9 ⟨A9, c9, rfl, hat, hbel⟩; have HB9 := Lib.hid (below_step HB8.out hbel); clear hat hbel))
  go_ret
  exact ⟨rfl, HB9.out⟩
end Go.Proofs.Ytjehhpppihmpgaa.Boo
