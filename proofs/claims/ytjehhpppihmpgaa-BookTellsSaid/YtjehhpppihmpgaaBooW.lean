/- BookTells. -/
import Derived.Test.YtjehhpppihmpgaaBooU
import Derived.Test.YtjehhpppihmpgaaBooV
namespace Go.Proofs.Ytjehhpppihmpgaa.Boo
open Go.RowKit Go.Proofs.Ytjehhpppihmpgaa.Mem

def offB (x y : Offer) : Bool := eqS x.s y.s && decide (x.p = y.p)
theorem offB_self (x : Offer) : offB x x = true := by
  unfold offB
  rw [eqS_self, decide_eq_true rfl]
  rfl
theorem eqA41 (w : World) (x y : Offer) : (Op.equalIn 10000 41 (.agg #[.string x.s, .int .i64 x.p]) (.agg #[.string y.s, .int .i64 y.p])).run Try.prog w = .ok (offB x y) w := by
  have hS : Try.prog.underlying 41 = some (.struct (Try.prog.fieldsOf 41)) := by kernel_rfl
  have hp : Try.prog.stoodInHeld 41 = false := by kernel_rfl
  rw [show (10000 : Nat) = 9999 + 1 from rfl, run_equalIn_agg w 9999 41 _ _ hS hp]
  simp only [Program.fieldsOf, Try.underlying41]
  unfold offB eqS
  go_simp
  by_cases h1 : (x.s.toList == y.s.toList) = true <;> by_cases h2 : x.p = y.p <;> simp_all
/-- A slice as an element. -/
structure Sl where
  A : Option Addr
  n : Nat
  c : Nat
def dV : En Sl := ⟨fun m => [.slice m.A m.n m.c], 1, by omega, fun _ => rfl, fun x u hu => by simp at hu; rcases hu with rfl; rfl⟩
theorem at_getV {w : World} {A : Option Addr} {c : Nat} {xs : List Sl} (h : dV.At w A c xs) (k : Nat) (x : Sl) (hx : xs[k]? = some x) :
    ∃ b off, A = some ⟨b, off, none⟩ ∧ b < w.heap.size ∧ w.cell? ⟨b, off + k, none⟩ = some (.slice x.A x.n x.c) := by
  obtain ⟨b, off, hA, hlt, hc⟩ := h.get k x hx
  have h0 := hc 0 (by decide)
  have e : k * dV.sz + 0 = k := by show k * 1 + 0 = k; omega
  rw [e] at h0
  exact ⟨b, off, hA, hlt, h0⟩
theorem put_two (n : Nat) (xs : List Slot) (hn : xs.length = n) (s : ByteArray) (p t : Int) (hb : n * 32 ≤ 140737488355328) (hs : s.size ≤ 9223372036854775807) :
    ∃ (D : List Slot) (m : Nat) (e : Int), D.length = m ∧ (∀ A c W, dL.At W A c xs → Calls Try.prog 14 #[.slice A n c, .string s, .int .i64 p, .int .i64 t] W (MadeE W D m e)) ∧
      (∀ A c W, dL.At W A c xs → Calls Try.prog 15 #[.slice A n c, .string s, .int .i64 p, .int .i64 t] W (MadeE W D m e)) :=
  ⟨putX s p t xs, _, putE s p t xs, rfl, fun A c W h => put_any A c n xs hn s p t W h hb hs, fun A c W h => rput_any A c n xs hn s p t W h hb hs⟩
theorem exp_two (n : Nat) (xs : List Slot) (hn : xs.length = n) (now most : Int) (hb : n * 32 ≤ 140737488355328) :
    ∃ (D : List Slot) (m : Nat), D.length = m ∧ (∀ A c W, dL.At W A c xs → Calls Try.prog 17 #[.slice A n c, .int .i64 now, .int .i64 most] W (MadeA dL W.heap.size W D m)) ∧
      (∀ A c W, dL.At W A c xs → Calls Try.prog 18 #[.slice A n c, .int .i64 now, .int .i64 most] W (MadeA dL W.heap.size W D m)) :=
  ⟨expL most now xs, _, rfl, fun A c W h => expire_any A c n xs hn now most W h hb, fun A c W h => rexp_any A c n xs hn now most W h hb⟩
theorem drop_two (n : Nat) (xs : List Slot) (hn : xs.length = n) (s : ByteArray) (hb : n * 32 ≤ 140737488355328) :
    ∃ (D : List Slot) (m : Nat), D.length = m ∧ (∀ A c W, dL.At W A c xs → Calls Try.prog 19 #[.slice A n c, .string s] W (MadeA dL W.heap.size W D m)) ∧
      (∀ A c W, dL.At W A c xs → Calls Try.prog 20 #[.slice A n c, .string s] W (MadeA dL W.heap.size W D m)) :=
  ⟨dropL s xs, _, rfl, fun A c W h => drop_any A c n xs hn s W h hb, fun A c W h => rdrop_any A c n xs hn s W h hb (Lib.hid (fun W' hW => at_any A c n xs hn s W' hW))⟩
theorem keep2 {W w1 : World} {a b : Addr} {x y : Value} (hb : Below W.heap.size W w1) (h : W.cell? a = some x ∧ W.cell? b = some y) : w1.cell? a = some x ∧ w1.cell? b = some y :=
  ⟨below_cell hb h.1, below_cell hb h.2⟩
set_option maxRecDepth 100000 in
set_option maxHeartbeats 40000000 in
theorem tells_any (A : Option Addr) (c n : Nat) (rs : List Raw) (hn : rs.length = n) (A1 : Option Addr) (c1 n1 : Nat) (xs : List Slot) (hn1 : xs.length = n1) (hb1 : n1 * 32 ≤ 140737488355328) (sel : ByteArray) (hsel : sel.size ≤ 9223372036854775807)
    (price now : Int) (w1 : I64 price) (w2 : I64 now) (w : World) (h : dR.At w A c rs) (hr : ∀ r ∈ rs, R64 r) (h1 : dL.At w A1 c1 xs) :
    Calls Try.prog 3 #[.slice A n c, .slice A1 n1 c1, .string sel, .int .i64 price, .int .i64 now] w (Ret (.bool true) w) := by
  have HK := Lib.hid (fun W hW => book_any A c n rs hn W hW hr)
  have H := Lib.hid h
  have HX := Lib.hid h1
  have HN1 := Lib.hid hn1
  obtain ⟨s2, hs2, hsz2, HS0⟩ := sell price w1
  have HS := Lib.hid HS0
  have b25 := pick_bd price 2500 (by decide)
  have P25 : Pick price 2500 (pickI price 2500) := ⟨w1, by decide, rfl⟩
  have b60 := pick_bd now 60 (by decide)
  have P60 : Pick now 60 (pickI now 60) := ⟨w2, by decide, rfl⟩
  have P20 : Pick price 20 (pickI price 20) := ⟨w1, by decide, rfl⟩
  generalize pickI price 2500 = p at b25 P25
  generalize pickI now 60 = k at b60 P60
  generalize pickI price 20 = q at P20
  clear h hr h1 hn1 HS0 hs2 w1 w2
  go_enter Try.func3, Try.ntmps3
  go_wp2_with (first
    | (go_at_call 10; refine (awake_any _).mono ?_; rintro e v1 ⟨rfl, hbel⟩; have B1 := Lib.hid hbel; have H1 := Lib.hid (H.out.below hbel); have X1 := Lib.hid (HX.out.below hbel); clear hbel)
    | (go_at_call 11; refine (HK.out _ H1.out).mono ?_; rintro e v2 ⟨A0, c0, n0, L0, rfl, hat, hlen, hg, hbel⟩; have B2 := Lib.hid (below_step B1.out hbel); have L2 := Lib.hid hat; have NL := Lib.hid hlen; have l8 := hlen ▸ hg.len; have X2 := Lib.hid (X1.out.below hbel); clear hat hlen hg hbel))
  obtain ⟨V, hV⟩ : ∃ V, V = v2.alloc (.cells #[.slice A0 n0 c0, .slice A1 n1 c1] 23) := ⟨_, rfl⟩
  obtain ⟨g, hg⟩ : ∃ g, g = v2.heap.size := ⟨_, rfl⟩
  have VA : Hid (dV.At V (some ⟨g, 0, none⟩) 2 [⟨A0, n0, c0⟩, ⟨A1, n1, c1⟩]) := Lib.hid (by rw [hV, hg]; exact (En.Own.lit dV v2 v2.heap.size 23 #[.slice A0 n0 c0, .slice A1 n1 c1] [⟨A0, n0, c0⟩, ⟨A1, n1, c1⟩] (Nat.le_refl _) (by simp) rfl).at_)
  have VL : Hid (∀ v ∈ ([⟨A0, n0, c0⟩, ⟨A1, n1, c1⟩] : List Sl), ∃ L : List Slot, L.length = v.n ∧ v.n * 32 ≤ 140737488355328 ∧ dL.At V v.A v.c L) := Lib.hid (by
    intro v hv
    rw [hV]
    simp only [List.mem_cons, List.not_mem_nil, or_false] at hv
    rcases hv with rfl | rfl
    · exact ⟨L0, NL.out, by show n0 * 32 ≤ _; omega, L2.out.below (below_alloc (Below.refl _ _) _)⟩
    · exact ⟨xs, HN1.out, hb1, X2.out.below (below_alloc (Below.refl _ _) _)⟩)
  have BV : Hid (Below w.heap.size w V) := Lib.hid (by rw [hV]; exact below_alloc B2.out _)
  have VN : ([⟨A0, n0, c0⟩, ⟨A1, n1, c1⟩] : List Sl).length = 2 := rfl
  generalize ([⟨A0, n0, c0⟩, ⟨A1, n1, c1⟩] : List Sl) = Vs at VA VL VN
  rw [← hV, ← hg]
  clear hV hg HX X1 X2 L2 H H1 HK B1 B2
  go_loopw [31] (fun iv wr => ∃ j : Nat, j ≤ 2 ∧ iv = .int .i64 j ∧ Hid (Below V.heap.size V wr)) (fun iv _ => 2 - (intOf iv).toNat)
  case atStart => exact ⟨0, by omega, rfl, Below.refl _ _⟩
  case round =>
    obtain ⟨j, hj, rfl, HB⟩ := hrel
    by_cases hlt : j < 2
    · have hx : Vs[j]? = some (Vs[j]'(by omega)) := List.getElem?_eq_getElem _
      obtain ⟨L, hL, hbL, hA⟩ := VL.out _ (List.getElem_mem (by omega : j < Vs.length))
      obtain ⟨b, off, e1, hbl, y0⟩ := at_getV (VA.out.below HB.out) j _ hx
      injection e1 with e1
      injection e1 with e1 e2
      subst e1 e2
      rw [Nat.zero_add] at y0
      generalize Vs[j]'(by omega) = v at y0 hx hL hbL hA
      obtain ⟨AL, nL, cL⟩ := v
      have hL' : L.length = nL := hL
      have hbL' : nL * 32 ≤ 140737488355328 := hbL
      have hA' : dL.At wr AL cL L := hA.below HB.out
      have NL' := Lib.hid hL'
      have LA := Lib.hid hA'
      have lle := hA'.le
      have lmx := hA'.max
      rw [hL'] at lle
      clear hx hL hbL hA hL' hA'
      go_wp2_with (go_at_call 12; refine (HS.out _).mono ?_; rintro e u1 ⟨rfl, hbel⟩; have C1 := Lib.hid hbel; have L1 := Lib.hid (LA.out.below hbel); clear hbel)
      obtain ⟨U, hU⟩ : ∃ U, U = u1.alloc (.cells #[.string sel, .string s2] 9) := ⟨_, rfl⟩
      obtain ⟨gs, hgs⟩ : ∃ gs, gs = u1.heap.size := ⟨_, rfl⟩
      have SA : Hid (dT.At U (some ⟨gs, 0, none⟩) 2 [sel, s2]) := Lib.hid (by rw [hU, hgs]; exact (En.Own.lit dT u1 u1.heap.size 9 #[.string sel, .string s2] [sel, s2] (Nat.le_refl _) (by simp) rfl).at_)
      have SP : Hid (∀ s ∈ [sel, s2], s.size ≤ 9223372036854775807) := Lib.hid (by
        intro s hs
        simp only [List.mem_cons, List.not_mem_nil, or_false] at hs
        rcases hs with rfl | rfl
        · exact hsel
        · omega)
      have SN : [sel, s2].length = 2 := rfl
      have L2 : Hid (dL.At U AL cL L) := Lib.hid (by rw [hU]; exact L1.out.below (below_alloc (Below.refl _ _) _))
      have CU : Hid (Below V.heap.size V U) := Lib.hid (by rw [hU]; exact below_alloc (below_step HB.out C1.out) _)
      generalize [sel, s2] = Ss at SA SP SN
      rw [← hU, ← hgs]
      clear hU hgs L1 LA y0 hbl C1
      go_loopw [40] (fun iv wr => ∃ j : Nat, j ≤ 2 ∧ iv = .int .i64 j ∧ Hid (Below U.heap.size U wr)) (fun iv _ => 2 - (intOf iv).toNat)
      case atStart => exact ⟨0, by omega, rfl, Below.refl _ _⟩
      case round =>
        obtain ⟨i, hi, rfl, HU⟩ := hrel
        by_cases hlt2 : i < 2
        · have hx : Ss[i]? = some (Ss[i]'(by omega)) := List.getElem?_eq_getElem _
          have hsz := SP.out _ (List.getElem_mem (by omega : i < Ss.length))
          obtain ⟨b, off, e1, hbl, y0⟩ := at_getT (SA.out.below HU.out) i _ hx
          injection e1 with e1
          injection e1 with e1 e2
          subst e1 e2
          rw [Nat.zero_add] at y0
          generalize Ss[i]'(by omega) = s at y0 hx hsz
          clear hx
          have L3 := Lib.hid (L2.out.below HU.out)
          go_wp2_with (go_at_call 13; refine (pick_of _ (by assumption)).mono ?_; rintro e w' ⟨rfl, rfl⟩)
          obtain ⟨T, hT⟩ : ∃ T, T = wr.alloc (.cells #[.int .i64 price, .int .i64 now, .int .i64 (1 + p), .int .i64 k] 29) := ⟨_, rfl⟩
          obtain ⟨gp, hgp⟩ : ∃ gp, gp = wr.heap.size := ⟨_, rfl⟩
          have PA : Hid (dP.At T (some ⟨gp, 0, none⟩) 2 [⟨price, now⟩, ⟨1 + p, k⟩]) := Lib.hid (by rw [hT, hgp]; exact (En.Own.lit dP wr wr.heap.size 29 #[.int .i64 price, .int .i64 now, .int .i64 (1 + p), .int .i64 k] [⟨price, now⟩, ⟨1 + p, k⟩] (Nat.le_refl _) (by simp) rfl).at_)
          have PN : ([⟨price, now⟩, ⟨1 + p, k⟩] : List Two).length = 2 := rfl
          have L4 : Hid (dL.At T AL cL L) := Lib.hid (by rw [hT]; exact L3.out.below (below_alloc (Below.refl _ _) _))
          have CT : Hid (Below U.heap.size U T) := Lib.hid (by rw [hT]; exact below_alloc HU.out _)
          generalize ([⟨price, now⟩, ⟨1 + p, k⟩] : List Two) = Ps at PA PN
          rw [← hT, ← hgp]
          clear hT hgp L3 y0 hbl
          go_loopw [55] (fun iv wr => ∃ j : Nat, j ≤ 2 ∧ iv = .int .i64 j ∧ Hid (Below T.heap.size T wr)) (fun iv _ => 2 - (intOf iv).toNat)
          case atStart => exact ⟨0, by omega, rfl, Below.refl _ _⟩
          case round =>
            obtain ⟨l, hl, rfl, HT⟩ := hrel
            by_cases hlt3 : l < 2
            · have hx : Ps[l]? = some (Ps[l]'(by omega)) := List.getElem?_eq_getElem _
              obtain ⟨b, off, e1, hbl, y0, y1⟩ := at_getP (PA.out.below HT.out) l _ hx
              injection e1 with e1
              injection e1 with e1 e2
              subst e1 e2
              rw [Nat.zero_add] at y0 y1
              generalize Ps[l]'(by omega) = x at y0 y1 hx
              obtain ⟨xa, xb⟩ := x
              clear hx
              have L5 := Lib.hid (L4.out.below HT.out)
              obtain ⟨D, md, ed, hD, F1, F2⟩ := put_two nL L NL'.out s xa xb hbL' hsz
              obtain ⟨E, me, hE, G1, G2⟩ := exp_two nL L NL'.out xb xa hbL'
              obtain ⟨F, mf, hF, J1, J2⟩ := exp_two nL L NL'.out xb q hbL'
              have FA := Lib.hid F1
              have FB := Lib.hid F2
              have GA := Lib.hid G1
              have GB := Lib.hid G2
              have JA := Lib.hid J1
              have JB := Lib.hid J2
              have ND := Lib.hid hD
              have NE := Lib.hid hE
              have NF := Lib.hid hF
              have ge : (ed != ed) = false := by simp
              clear F1 F2 G1 G2 J1 J2 hD hE hF
              go_wp2_with (first
                | (go_at_call 14; refine (FA.out _ _ _ (L5.out.below (below_alloc (Below.refl _ _) _))).mono ?_; rintro e t1 ⟨A5, c5, rfl, hat, hbel⟩; have B_1 : Hid (Below T.heap.size T t1) := Lib.hid (below_step (below_alloc HT.out _) hbel); have L_1 := Lib.hid ((L5.out.below (below_alloc (Below.refl _ _) _)).below hbel); have D_1 := Lib.hid hat; have x0 := below_cell hbel (cell_new wr #[.int .i64 xa, .int .i64 xb] 29 0); have x1 := below_cell hbel (cell_new wr #[.int .i64 xa, .int .i64 xb] 29 1); clear hat hbel)
                | (go_at_call 15; refine (FB.out _ _ _ L_1.out).mono ?_; rintro e t2 ⟨A6, c6, rfl, hat, hbel⟩; have B_2 : Hid (Below T.heap.size T t2) := Lib.hid (below_step B_1.out hbel); have L_2 := Lib.hid (L_1.out.below hbel); have P_2 := Lib.hid (D_1.out.below hbel); have Q_2 := Lib.hid hat; have z0 := below_cell hbel x0; have z1 := below_cell hbel x1; clear hat hbel))
              have hcc := And.intro z0 z1
              go_region_held3 (fun w' => w'.cell? ⟨wr.heap.size, 0, none⟩ = some (.int .i64 xa) ∧ w'.cell? ⟨wr.heap.size, 1, none⟩ = some (.int .i64 xb))
                (first | assumption | go_keep)
                (first
                  | (go_at_call 13; refine (pick_of _ (by assumption)).mono ?_; rintro e w' ⟨rfl, rfl⟩)
                  | (go_at_call 16; have Z := B_8; go_must (refine (same_yes2 _ _ _ _ _ _ _ _ NF.out NF.out rfl _ ?_ ?_).mono ?_; (refine J_8.out.below ?_; (repeat (first | exact Below.refl _ _ | refine below_alloc ?_ _ | refine below_drew ?_ | refine below_drewN ?_ _))); (refine K_8.out.below ?_; (repeat (first | exact Below.refl _ _ | refine below_alloc ?_ _ | refine below_drew ?_ | refine below_drewN ?_ _))); rintro e t9 ⟨rfl, hbel⟩; have hq9 := keep2 hbel (by assumption); have B_9 : Hid (Below T.heap.size T t9) := Lib.hid (below_step (by (repeat (first | exact B_8.out | refine below_alloc ?_ _ | refine below_drew ?_ | refine below_drewN ?_ _))) hbel); have L_9 := Lib.hid ((L_8.out.below (by (repeat (first | exact Below.refl _ _ | refine below_alloc ?_ _ | refine below_drew ?_ | refine below_drewN ?_ _)))).below hbel); have G_9 := Lib.hid ((G_8.out.below (by (repeat (first | exact Below.refl _ _ | refine below_alloc ?_ _ | refine below_drew ?_ | refine below_drewN ?_ _)))).below hbel); have H_9 := Lib.hid ((H_8.out.below (by (repeat (first | exact Below.refl _ _ | refine below_alloc ?_ _ | refine below_drew ?_ | refine below_drewN ?_ _)))).below hbel); have J_9 := Lib.hid ((J_8.out.below (by (repeat (first | exact Below.refl _ _ | refine below_alloc ?_ _ | refine below_drew ?_ | refine below_drewN ?_ _)))).below hbel); have K_9 := Lib.hid ((K_8.out.below (by (repeat (first | exact Below.refl _ _ | refine below_alloc ?_ _ | refine below_drew ?_ | refine below_drewN ?_ _)))).below hbel); clear hbel))
                  | (go_at_call 18; have Z := B_7; go_must (refine (JB.out _ _ _ ?_).mono ?_; (refine L_7.out.below ?_; (repeat (first | exact Below.refl _ _ | refine below_alloc ?_ _ | refine below_drew ?_ | refine below_drewN ?_ _))); rintro e t8 ⟨R8, r8, rfl, hat, hbel⟩; have hq8 := keep2 hbel (by assumption); have B_8 : Hid (Below T.heap.size T t8) := Lib.hid (below_step (by (repeat (first | exact B_7.out | refine below_alloc ?_ _ | refine below_drew ?_ | refine below_drewN ?_ _))) hbel); have L_8 := Lib.hid ((L_7.out.below (by (repeat (first | exact Below.refl _ _ | refine below_alloc ?_ _ | refine below_drew ?_ | refine below_drewN ?_ _)))).below hbel); have G_8 := Lib.hid ((G_7.out.below (by (repeat (first | exact Below.refl _ _ | refine below_alloc ?_ _ | refine below_drew ?_ | refine below_drewN ?_ _)))).below hbel); have H_8 := Lib.hid ((H_7.out.below (by (repeat (first | exact Below.refl _ _ | refine below_alloc ?_ _ | refine below_drew ?_ | refine below_drewN ?_ _)))).below hbel); have J_8 := Lib.hid ((J_7.out.below (by (repeat (first | exact Below.refl _ _ | refine below_alloc ?_ _ | refine below_drew ?_ | refine below_drewN ?_ _)))).below hbel); have K_8 := Lib.hid hat; clear hat hbel))
                  | (go_at_call 17; have Z := B_6; go_must (refine (JA.out _ _ _ ?_).mono ?_; (refine L_6.out.below ?_; (repeat (first | exact Below.refl _ _ | refine below_alloc ?_ _ | refine below_drew ?_ | refine below_drewN ?_ _))); rintro e t7 ⟨R7, r7, rfl, hat, hbel⟩; have hq7 := keep2 hbel (by assumption); have B_7 : Hid (Below T.heap.size T t7) := Lib.hid (below_step (by (repeat (first | exact B_6.out | refine below_alloc ?_ _ | refine below_drew ?_ | refine below_drewN ?_ _))) hbel); have L_7 := Lib.hid ((L_6.out.below (by (repeat (first | exact Below.refl _ _ | refine below_alloc ?_ _ | refine below_drew ?_ | refine below_drewN ?_ _)))).below hbel); have G_7 := Lib.hid ((G_6.out.below (by (repeat (first | exact Below.refl _ _ | refine below_alloc ?_ _ | refine below_drew ?_ | refine below_drewN ?_ _)))).below hbel); have H_7 := Lib.hid ((H_6.out.below (by (repeat (first | exact Below.refl _ _ | refine below_alloc ?_ _ | refine below_drew ?_ | refine below_drewN ?_ _)))).below hbel); have J_7 := Lib.hid hat; clear hat hbel))
                  | (go_at_call 16; have Z := B_5; go_must (refine (same_yes2 _ _ _ _ _ _ _ _ NE.out NE.out rfl _ ?_ ?_).mono ?_; (refine G_5.out.below ?_; (repeat (first | exact Below.refl _ _ | refine below_alloc ?_ _ | refine below_drew ?_ | refine below_drewN ?_ _))); (refine H_5.out.below ?_; (repeat (first | exact Below.refl _ _ | refine below_alloc ?_ _ | refine below_drew ?_ | refine below_drewN ?_ _))); rintro e t6 ⟨rfl, hbel⟩; have hq6 := keep2 hbel (by assumption); have B_6 : Hid (Below T.heap.size T t6) := Lib.hid (below_step (by (repeat (first | exact B_5.out | refine below_alloc ?_ _ | refine below_drew ?_ | refine below_drewN ?_ _))) hbel); have L_6 := Lib.hid ((L_5.out.below (by (repeat (first | exact Below.refl _ _ | refine below_alloc ?_ _ | refine below_drew ?_ | refine below_drewN ?_ _)))).below hbel); have G_6 := Lib.hid ((G_5.out.below (by (repeat (first | exact Below.refl _ _ | refine below_alloc ?_ _ | refine below_drew ?_ | refine below_drewN ?_ _)))).below hbel); have H_6 := Lib.hid ((H_5.out.below (by (repeat (first | exact Below.refl _ _ | refine below_alloc ?_ _ | refine below_drew ?_ | refine below_drewN ?_ _)))).below hbel); clear hbel))
                  | (go_at_call 18; have Z := B_4; go_must (refine (GB.out _ _ _ ?_).mono ?_; (refine L_4.out.below ?_; (repeat (first | exact Below.refl _ _ | refine below_alloc ?_ _ | refine below_drew ?_ | refine below_drewN ?_ _))); rintro e t5 ⟨R5, r5, rfl, hat, hbel⟩; have hq5 := keep2 hbel (by assumption); have B_5 : Hid (Below T.heap.size T t5) := Lib.hid (below_step (by (repeat (first | exact B_4.out | refine below_alloc ?_ _ | refine below_drew ?_ | refine below_drewN ?_ _))) hbel); have L_5 := Lib.hid ((L_4.out.below (by (repeat (first | exact Below.refl _ _ | refine below_alloc ?_ _ | refine below_drew ?_ | refine below_drewN ?_ _)))).below hbel); have G_5 := Lib.hid ((G_4.out.below (by (repeat (first | exact Below.refl _ _ | refine below_alloc ?_ _ | refine below_drew ?_ | refine below_drewN ?_ _)))).below hbel); have H_5 := Lib.hid hat; clear hat hbel))
                  | (go_at_call 17; have Z := B_3; go_must (refine (GA.out _ _ _ ?_).mono ?_; (refine L_3.out.below ?_; (repeat (first | exact Below.refl _ _ | refine below_alloc ?_ _ | refine below_drew ?_ | refine below_drewN ?_ _))); rintro e t4 ⟨R4, r4, rfl, hat, hbel⟩; have hq4 := keep2 hbel (by assumption); have B_4 : Hid (Below T.heap.size T t4) := Lib.hid (below_step (by (repeat (first | exact B_3.out | refine below_alloc ?_ _ | refine below_drew ?_ | refine below_drewN ?_ _))) hbel); have L_4 := Lib.hid ((L_3.out.below (by (repeat (first | exact Below.refl _ _ | refine below_alloc ?_ _ | refine below_drew ?_ | refine below_drewN ?_ _)))).below hbel); have G_4 := Lib.hid hat; clear hat hbel))
                  | (go_at_call 16; have Z := B_2; go_must (refine (same_yes2 _ _ _ _ _ _ _ _ ND.out ND.out rfl _ ?_ ?_).mono ?_; (refine P_2.out.below ?_; (repeat (first | exact Below.refl _ _ | refine below_alloc ?_ _ | refine below_drew ?_ | refine below_drewN ?_ _))); (refine Q_2.out.below ?_; (repeat (first | exact Below.refl _ _ | refine below_alloc ?_ _ | refine below_drew ?_ | refine below_drewN ?_ _))); rintro e t3 ⟨rfl, hbel⟩; have hq3 := keep2 hbel (by assumption); have B_3 : Hid (Below T.heap.size T t3) := Lib.hid (below_step (by (repeat (first | exact B_2.out | refine below_alloc ?_ _ | refine below_drew ?_ | refine below_drewN ?_ _))) hbel); have L_3 := Lib.hid ((L_2.out.below (by (repeat (first | exact Below.refl _ _ | refine below_alloc ?_ _ | refine below_drew ?_ | refine below_drewN ?_ _)))).below hbel); clear hbel)))
              all_goals go_wp2
              all_goals go_roundw
              case rel =>
                have hfin : Hid (Below T.heap.size T t9) := B_9
                first
                  | exact ⟨l + 1, by omega, by first | rfl | go_num, hfin⟩
                  | exact ⟨l + 1, by omega, by first | rfl | go_num, below_drew hfin.out⟩
                  | ((repeat apply Exists.intro); exact ⟨⟨l + 1, by omega, by first | rfl | go_num, hfin⟩, rfl⟩)
              case measure => simp [intOf]; omega
            · obtain rfl : l = 2 := by omega
              obtain ⟨D, md, hD, M1, M2⟩ := drop_two nL L NL'.out s hbL'
              have MA := Lib.hid M1
              have MB := Lib.hid M2
              have ND := Lib.hid hD
              have L_0 := Lib.hid (L4.out.below HT.out)
              have B_0 : Hid (Below U.heap.size U wr) := Lib.hid (below_step CT.out HT.out)
              clear M1 M2 hD
              go_wp2_with (first
                | (go_at_call 19; refine (MA.out _ _ _ L_0.out).mono ?_; rintro e t1 ⟨A5, c5, rfl, hat, hbel⟩; have B_1 := Lib.hid (below_step B_0.out hbel); have L_1 := Lib.hid (L_0.out.below hbel); have D_1 := Lib.hid hat; clear hat hbel)
                | (go_at_call 20; refine (MB.out _ _ _ L_1.out).mono ?_; rintro e t2 ⟨A6, c6, rfl, hat, hbel⟩; have B_2 := Lib.hid (below_step B_1.out hbel); have D_2 := Lib.hid (D_1.out.below hbel); have E_2 := Lib.hid hat; clear hat hbel)
                | (go_at_call 16; refine (same_yes2 _ _ _ _ _ _ _ _ ND.out ND.out rfl _ D_2.out E_2.out).mono ?_; rintro e t3 ⟨rfl, hbel⟩; have B_3 := Lib.hid (below_step B_2.out hbel); clear hbel))
              go_roundw
              case rel => first | exact ⟨i + 1, by omega, by first | rfl | go_num, B_3⟩ | ((repeat apply Exists.intro); exact ⟨⟨i + 1, by omega, by first | rfl | go_num, B_3⟩, rfl⟩)
              case measure => simp [intOf]; omega
        · obtain rfl : i = 2 := by omega
          have L_0 := Lib.hid (L2.out.below HU.out)
          have B_0 : Hid (Below V.heap.size V wr) := Lib.hid (below_step CU.out HU.out)
          have hol : Hid ((offL L).length = nL) := Lib.hid (by unfold offL; rw [List.length_map]; exact NL'.out)
          go_wp2_with (first
            | (go_at_call 21; refine (offers_any _ _ _ L NL'.out _ L_0.out hbL').mono ?_; rintro e t1 ⟨A5, c5, rfl, hat, hbel⟩; have B_1 := Lib.hid (below_step B_0.out hbel); have L_1 := Lib.hid (L_0.out.below hbel); have D_1 := Lib.hid hat; clear hat hbel)
            | (go_at_call 22; refine (roffers_any _ _ _ L NL'.out _ L_1.out hbL').mono ?_; rintro e t2 ⟨A6, c6, rfl, hat, hbel⟩; have B_2 := Lib.hid (below_step B_1.out hbel); have D_2 := Lib.hid (D_1.out.below hbel); have E_2 := Lib.hid hat; clear hat hbel))
          have m1 := D_2.out.le
          have m2 := D_2.out.max
          have m3 := E_2.out.le
          have m4 := E_2.out.max
          rw [hol.out] at m1 m3
          generalize offL L = O at D_2 E_2 hol
          go_loopw [24] (fun iv wq => ∃ (l m : Nat), l ≤ nL ∧ iv = .int .i64 l ∧ wq = t2.drewN m) (fun iv _ => nL - (intOf iv).toNat)
          case atStart => exact ⟨0, 0, Nat.zero_le _, rfl, rfl⟩
          case round =>
            obtain ⟨l, m, hl, rfl, rfl⟩ := hrel
            by_cases hlt3 : l < nL
            · have hx : O[l]? = some (O[l]'(by have := hol.out; omega)) := List.getElem?_eq_getElem _
              obtain ⟨b, off, rfl, hbl, d0, d1⟩ := at_getF D_2.out l _ hx
              obtain ⟨b', off', rfl, hbl', e0, e1⟩ := at_getF E_2.out l _ hx
              generalize O[l]'(by have := hol.out; omega) = x at d0 d1 e0 e1 hx
              have hq : ∀ W, (Op.equalIn 10000 41 (.agg #[.string x.s, .int .i64 x.p]) (.agg #[.string x.s, .int .i64 x.p])).run Try.prog W = .ok true W := fun W => by rw [eqA41 W x x, offB_self]
              clear hx
              go_wp2_with fail
              go_quiet (fail)
              go_wp2
              go_roundw
              case rel => exact ⟨l + 1, m + nq, by omega, by go_num, by go_simp⟩
              case measure => simp [intOf]; omega
            · obtain rfl : l = nL := by omega
              have B_3 := Lib.hid (below_drewN B_2.out m)
              go_wp2
              go_roundw
              case rel => first | exact ⟨j + 1, by omega, by first | rfl | go_num, B_3⟩ | ((repeat apply Exists.intro); exact ⟨⟨j + 1, by omega, by first | rfl | go_num, B_3⟩, rfl⟩)
              case measure => simp [intOf]; omega
    · obtain rfl : j = 2 := by omega
      go_wp2
      go_ret
      exact ⟨rfl, below_step BV.out HB.out⟩
end Go.Proofs.Ytjehhpppihmpgaa.Boo
