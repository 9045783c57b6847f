/- Part of the proof of TopFeeds: MonA MonB. -/
import Derived.Test.YtlibhkkckgkkkaaGreatDoorZAE
import Derived.BigQuiet
import Derived.WalkLawsBesides
namespace Go.Proofs.YtlibhkkckgkkkaaGreatDoor.MoneyA
open Go.RowKit Go.Proofs.Tryz
def dU (a:Int):Bool:=decide (-1000000000000≤a∧a≤1000000000000)
def qM (a b c:Int):Bool:=decide (b≤a∧a≤c)
def sU (q:Int):Int×Int:=if dU q=true then(q,0) else(0,10)
theorem kQ (a b c:Int) (w:World):Calls prog 286 #[.int .i64 a,.int .i64 b,.int .i64 c] w fun e w'=>e=.returned (.bool (qM a b c))∧w'=w:=by
 unfold qM
 by_cases h:b≤a
 ·by_cases h':a≤c
  ·rw[decide_eq_true ⟨h,h'⟩]
   go_enter func286,ntmps286
   go_wp2
   go_ret
   exact⟨rfl,rfl⟩
  ·rw[decide_eq_false (fun k=>h' k.2)]
   go_enter func286,ntmps286
   go_wp2
   go_ret
   exact⟨rfl,rfl⟩
 ·rw[decide_eq_false (fun k=>h k.1)]
  go_enter func286,ntmps286
  go_wp2
  go_ret
  exact⟨rfl,rfl⟩
theorem dW (a:Int) (w:World):Calls prog 264 #[.int .i64 a] w fun e w'=>e=.returned (.bool (dU a))∧w'=w:=by
 go_enter func264,ntmps264
 go_wp2_with (go_at_call 286;refine(kQ _ _ _ _).mono ?_;rintro e w' ⟨rfl,rfl⟩)
 go_ret
 exact⟨rfl,rfl⟩
theorem zL (q:Int) (w:World):Calls prog 287 #[.int .i64 q,.bool true] w fun e w'=>e=.returned (.tuple #[.int .i64 (sU q).1,.int .i64 (sU q).2])∧w'=w:=by
 unfold sU
 cases h:dU q
 ·go_enter func287,ntmps287
  go_wp2_with (go_at_call 264;refine(dW _ _).mono ?_;rintro e w' ⟨rfl,rfl⟩)
  go_ret2
  exact⟨rfl,rfl⟩
 ·go_enter func287,ntmps287
  go_wp2_with (go_at_call 264;refine(dW _ _).mono ?_;rintro e w' ⟨rfl,rfl⟩)
  go_ret2
  exact⟨rfl,rfl⟩
theorem aOg (q:Int) (w:World):Calls prog 287 #[.int .i64 q,.bool false] w fun e w'=>e=.returned (.tuple #[.int .i64 0,.int .i64 10])∧w'=w:=by
 go_enter func287,ntmps287
 go_wp2_with (go_at_call 264;refine(dW _ _).mono ?_;rintro e w' ⟨rfl,rfl⟩)
 go_ret2
 exact⟨rfl,rfl⟩
theorem pA {a:Int} (h:dU a=true):-1000000000000≤a∧a≤1000000000000:=of_decide_eq_true h
def xX (a b:Int) (r:Int×Int):Int×Int:=if dU a=true∧dU b=true then r else(0,10)
theorem aN6 {a b:Int} {r:Int×Int} (h:dU a=false):xX a b r=(0,10):=by unfold xX;rw[if_neg (by rw[h];simp)]
theorem aJ9 {a b:Int} {r:Int×Int} (h:dU b=false):xX a b r=(0,10):=by unfold xX;rw[if_neg (by rw[h];simp)]
theorem aJ8 {a b:Int} {r:Int×Int} (h:dU a=true) (h':dU b=true):xX a b r=r:=if_pos ⟨h,h'⟩
theorem aBl (a b:Int) (w:World):Calls prog 285 #[.int .i64 a,.int .i64 b] w fun e w'=>e=.returned (.tuple #[.int .i64 (xX a b (sU (a-b))).1,.int .i64 (xX a b (sU (a-b))).2])∧w'=w:=by
 rcases Bool.eq_false_or_eq_true (dU a) with h|h
 ·rcases Bool.eq_false_or_eq_true (dU b) with h'|h'
  ·have ha:=pA h
   have hb:=pA h'
   rw[aJ8 h h']
   go_enter func285,ntmps285
   go_wp2_with (first|(go_at_call 264;refine(dW _ _).mono ?_;rintro e w' ⟨rfl,rfl⟩)|(go_at_call 287;refine(zL _ _).mono ?_;rintro e w' ⟨rfl,rfl⟩))
   go_ret2
   exact⟨rfl,rfl⟩
  ·rw[aJ9 h']
   go_enter func285,ntmps285
   go_wp2_with (first|(go_at_call 264;refine(dW _ _).mono ?_;rintro e w' ⟨rfl,rfl⟩)|(go_at_call 287;refine(aOg _ _).mono ?_;rintro e w' ⟨rfl,rfl⟩))
   go_ret2
   exact⟨rfl,rfl⟩
 ·rw[aN6 h]
  go_enter func285,ntmps285
  go_wp2_with (first|(go_at_call 264;refine(dW _ _).mono ?_;rintro e w' ⟨rfl,rfl⟩)|(go_at_call 287;refine(aOg _ _).mono ?_;rintro e w' ⟨rfl,rfl⟩))
  go_ret2
  exact⟨rfl,rfl⟩
theorem w64 {x:Int} (h:-9223372036854775808≤x) (h':x≤9223372036854775807):wrap64 x=x:=by unfold wrap64;omega
theorem aPb {a b A B:Int} (ha:-A≤a) (ha':a≤A) (hb:-B≤b) (hb':b≤B):-(A * B)≤a * b∧a * b≤A * B:=by
 have h:(a * b).natAbs≤(A * B).natAbs:=by
  rw[Int.natAbs_mul,Int.natAbs_mul]
  exact Nat.mul_le_mul (by omega) (by omega)
 have h0:0≤A * B:=Int.mul_nonneg (by omega) (by omega)
 omega
theorem aFr (p:Int):(0≤p→Int.tmod p 10000=p % 10000)∧(p<0→Int.tmod p 10000=-((-p) % 10000)):=by
 refine⟨fun h=>Int.tmod_eq_emod_of_nonneg h,fun h=>?_⟩
 have e:Int.tmod (-(-p)) 10000=-Int.tmod (-p) 10000:=Int.neg_tmod _ _
 rw[Int.neg_neg,Int.tmod_eq_emod_of_nonneg (a:=-p) (by omega)] at e
 exact e
theorem aOy (p:Int):(0≤p→Int.tdiv p 10000=p / 10000)∧(p<0→Int.tdiv p 10000=-((-p) / 10000)):=by
 refine⟨fun h=>Int.tdiv_eq_ediv_of_nonneg h,fun h=>?_⟩
 have e:Int.tdiv (-(-p)) 10000=-Int.tdiv (-p) 10000:=Int.neg_tdiv _ _
 rw[Int.neg_neg,Int.tdiv_eq_ediv_of_nonneg (a:=-p) (by omega)] at e
 exact e
def oB (p:Int) (up:Bool):Int×Int:=sU (p / 10000+if up=true∧0<p % 10000 then 1 else 0)
theorem nB {p:Int} (h:-100000000000000000≤p) (h':p≤100000000000000000):(wrap64 ((wrap64 p).tmod 10000+10000)).tmod 10000=p % 10000:=by
 rw[w64 (x:=p) (by omega) (by omega)]
 have m1:=aFr p
 rw[w64 (x:=p.tmod 10000+10000) (by omega) (by omega)]
 have m2:=aFr (Int.tmod p 10000+10000)
 omega
theorem pD {p:Int} (h:-100000000000000000≤p) (h':p≤100000000000000000):wrap64 ((wrap64 (wrap64 p-(wrap64 ((wrap64 p).tmod 10000+10000)).tmod 10000)).tdiv 10000)=p / 10000:=by
 rw[nB h h',w64 (x:=p) (by omega) (by omega),w64 (x:=p-p % 10000) (by omega) (by omega)]
 have m3:=aOy (p-p % 10000)
 have e5:Int.tdiv (p-p % 10000) 10000=p / 10000:=by omega
 rw[e5,w64 (by omega) (by omega)]
theorem aDt {p:Int} (h:-100000000000000000≤p) (h':p≤100000000000000000):sU (wrap64 ((wrap64 (wrap64 p-(wrap64 ((wrap64 p).tmod 10000+10000)).tmod 10000)).tdiv 10000))=oB p false:=by
 rw[pD h h'];simp[oB]
theorem aG5 {p:Int} (h:-100000000000000000≤p) (h':p≤100000000000000000) (hr:(wrap64 ((wrap64 p).tmod 10000+10000)).tmod 10000≤0):sU (wrap64 ((wrap64 (wrap64 p-(wrap64 ((wrap64 p).tmod 10000+10000)).tmod 10000)).tdiv 10000))=oB p true:=by
 rw[pD h h']
 rw[nB h h'] at hr
 unfold oB
 rw[if_neg (by omega),Int.add_zero]
theorem aG4 {p:Int} (h:-100000000000000000≤p) (h':p≤100000000000000000) (hr:0<(wrap64 ((wrap64 p).tmod 10000+10000)).tmod 10000):sU (wrap64 (wrap64 ((wrap64 (wrap64 p-(wrap64 ((wrap64 p).tmod 10000+10000)).tmod 10000)).tdiv 10000)+1))=oB p true:=by
 rw[pD h h']
 rw[nB h h'] at hr
 unfold oB
 rw[if_pos ⟨rfl,hr⟩,w64 (by omega) (by omega)]
theorem ret2 {r r':Int×Int} (h:r=r'):Ending.returned (.tuple #[.int .i64 r.1,.int .i64 r.2])=Ending.returned (.tuple #[.int .i64 r'.1,.int .i64 r'.2]):=by rw[h]
theorem kD {r r':Int} (h:r=r'):Ending.returned (.int .i64 r)=Ending.returned (.int .i64 r'):=by rw[h]
theorem aLu (a b:Int) (up:Bool) (w:World) (ha:dU a=true) (hb:-100000≤b) (hb':b≤100000):
 Calls prog 235 #[.int .i64 a,.int .i64 b,.bool up] w fun e w'=>e=.returned (.tuple #[.int .i64 (oB (a * b) up).1,.int .i64 (oB (a * b) up).2])∧w'=w:=by
 have hW:qM b (-100000) 100000=true:=decide_eq_true ⟨hb,hb'⟩
 have hm:=aPb (A:=1000000000000) (B:=100000) (pA ha).1 (pA ha).2 hb hb'
 have h1:Hid (-100000000000000000≤a * b):=by show _≤_;omega
 have h2:Hid (a * b≤100000000000000000):=by show _≤_;omega
 clear hm
 cases up
 ·go_enter func235,ntmps235
  go_wp2_with (first|(go_at_call 264;refine(dW _ _).mono ?_;rintro e w' ⟨rfl,rfl⟩)|(go_at_call 286;refine(kQ _ _ _ _).mono ?_;rintro e w' ⟨rfl,rfl⟩)|(go_at_call 287;refine(zL _ _).mono ?_;rintro e w' ⟨rfl,rfl⟩))
  go_ret2
  exact⟨ret2 (aDt h1.out h2.out),rfl⟩
 ·go_enter func235,ntmps235
  go_wp2_with (first|(go_at_call 264;refine(dW _ _).mono ?_;rintro e w' ⟨rfl,rfl⟩)|(go_at_call 286;refine(kQ _ _ _ _).mono ?_;rintro e w' ⟨rfl,rfl⟩)|(go_at_call 287;refine(zL _ _).mono ?_;rintro e w' ⟨rfl,rfl⟩))
  all_goals go_ret2
  ·exact⟨ret2 (aG4 h1.out h2.out (by assumption)),rfl⟩
  ·exact⟨ret2 (aG5 h1.out h2.out (by assumption)),rfl⟩
theorem aG6 (a b:Int) (up:Bool) (w:World) (h:¬(dU a=true∧-100000≤b∧b≤100000)):
 Calls prog 235 #[.int .i64 a,.int .i64 b,.bool up] w fun e w'=>e=.returned (.tuple #[.int .i64 0,.int .i64 10])∧w'=w:=by
 rcases Bool.eq_false_or_eq_true (dU a) with ha|ha
 ·have hW:qM b (-100000) 100000=false:=decide_eq_false fun k=>h ⟨ha,k.1,k.2⟩
  clear h
  go_enter func235,ntmps235
  go_wp2_with (first|(go_at_call 264;refine(dW _ _).mono ?_;rintro e w' ⟨rfl,rfl⟩)|(go_at_call 286;refine(kQ _ _ _ _).mono ?_;rintro e w' ⟨rfl,rfl⟩))
  go_ret2
  exact⟨rfl,rfl⟩
 ·clear h
  go_enter func235,ntmps235
  go_wp2_with (first|(go_at_call 264;refine(dW _ _).mono ?_;rintro e w' ⟨rfl,rfl⟩))
  go_ret2
  exact⟨rfl,rfl⟩
def gF (a low high:Int):Int:=if(if high<a then high else a)<low then low else(if high<a then high else a)
theorem uB (a b c:Int) (w:World):Calls prog 37 #[.int .i64 a,.int .i64 b,.int .i64 c] w fun e w'=>e=.returned (.int .i64 (gF a b c))∧w'=w:=by
 go_enter func37,ntmps37
 go_wp2
 all_goals go_ret
 all_goals refine⟨kD ?_,rfl⟩
 all_goals show _=gF a b c
 all_goals unfold gF
 all_goals rename_i k1
 all_goals revert k1
 all_goals (repeat' split) <;> intros <;> omega
theorem xU (a:Int):0≤gF a 0 1099511627776∧gF a 0 1099511627776≤1099511627776:=by unfold gF;(repeat' split) <;> omega
def iZ (t b:Int):Int:=if 1099511627776<gF t 0 1099511627776+gF b 0 1099511627776 then 1099511627776 else gF t 0 1099511627776+gF b 0 1099511627776
theorem iL (a b:Int) (w:World):Calls prog 68 #[.int .i64 a,.int .i64 b] w fun e w'=>e=.returned (.int .i64 (iZ a b))∧w'=w:=by
 have ha:=xU a
 have hb:=xU b
 go_enter func68,ntmps68
 go_wp2_with (first|(go_at_call 37;refine(uB _ _ _ _).mono ?_;rintro e w' ⟨rfl,rfl⟩))
 all_goals go_ret
 all_goals refine⟨kD ?_,rfl⟩
 all_goals show _=iZ a b
 all_goals unfold iZ
 ·rw[if_pos (by assumption)]
 ·rw[if_neg (by omega)]
end Go.Proofs.YtlibhkkckgkkkaaGreatDoor.MoneyA
