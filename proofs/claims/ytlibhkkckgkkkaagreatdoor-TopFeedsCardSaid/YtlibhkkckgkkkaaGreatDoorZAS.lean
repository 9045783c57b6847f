/- Part of the proof of TopFeeds: DecC DecD DecE LexA SplA. -/
import Derived.Test.YtlibhkkckgkkkaaGreatDoorZAR
import Derived.Lib.ItoaLen
set_option maxHeartbeats 1000000
set_option maxRecDepth 100000
namespace Go.Proofs.YtlibhkkckgkkkaaGreatDoor.Tf
open Go.RowKit Go.Proofs.YtlibhkkckgkkkaaGreatDoor.Mem Go.Proofs.YtlibhkkckgkkkaaGreatDoor.Boo Go.Proofs.YtlibhkkckgkkkaaGreatDoor.MoneyA Go.Proofs.Tryz
def bP (n:Int):ByteArray:=⟨(Lib.itoa n).toArray⟩
def dR (a:Int):ByteArray:=
 if dU a then
  (if a<0 then ByteArray.mk #[45]++bP (-a / 100)++ByteArray.mk #[46]++(bP (100 + -a % 100)).extract 1 (bP (100 + -a % 100)).size
    else ByteArray.mk #[]++bP (a / 100)++ByteArray.mk #[46]++(bP (100+a % 100)).extract 1 (bP (100+a % 100)).size)
 else ByteArray.mk #[]
theorem rE (k:Int) (h0:0≤k) (h1:k<100):(bP (100+k)).size=3:=by
 obtain⟨n,rfl⟩:=Int.eq_ofNat_of_zero_le h0
 have:n<100:=by omega
 have H:∀m:Fin 100,(bP (100+(m.val:Int))).size=3:=by decide +kernel
 exact H ⟨n,this⟩
theorem mH (n:Int) (h:-9223372036854775808≤n∧n≤9223372036854775807):(bP n).size≤21:=by
 have:=Lib.itoa_length_le n h.1 h.2
 show(Lib.itoa n).toArray.size≤21
 simpa using this
theorem aFt (a:Int) (ha:dU a=false) (w:World):Calls prog 202 #[.int .i64 a] w (Ret (.string ⟨#[]⟩) w):=by
 have HR:=Hd (fun W=>dW a W)
 rw[ha] at HR
 clear ha
 go_enter func202,ntmps202
 go_wp2_with (first
  |(go_at_call 264;refine(HR.out _).mono ?_;rintro e w1 ⟨rfl,rfl⟩))
 go_ret
 exact⟨rfl,bR⟩
theorem iw64 {x:Int} (h:-9223372036854775808≤x) (h':x≤9223372036854775807):IntKind.i64.wrap x=x:=by rw[IntKind.wrap_i64];omega
theorem tE (a n:Int) (sg T1 T2:ByteArray) (ha:dU a=true) (hn:(a<0∧n=-a∧sg=ByteArray.mk #[45])∨(¬a<0∧n=a∧sg=ByteArray.mk #[])) (h1:∀W,Gl W→Calls prog 215 #[.int .i64 (100+n % 100)] W (Ret (.string T1) W)) (h2:∀W,Gl W→Calls prog 215 #[.int .i64 (n / 100)] W (Ret (.string T2) W)) (h3:T1.size=3) (h4:T2.size≤21) (w:World) (G:Gl w):
 Calls prog 202 #[.int .i64 a] w (Ret (.string (sg++T2++ByteArray.mk #[46]++T1.extract 1 T1.size)) w):=by
 have hb:=pA ha
 have HR:=Hd (fun W=>dW a W)
 rw[ha] at HR
 have H1:=Hd h1
 have HG:=Hd G
 have h0:0≤n:=by omega
 have e1:Int.tmod n 100=n % 100:=Int.tmod_eq_emod_of_nonneg h0
 have e2:Int.tdiv n 100=n / 100:=Int.tdiv_eq_ediv_of_nonneg h0
 have g2:(1:Int)≤(T1.size:Int):=by omega
 have e5:wrap64 (100+n % 100)=100+n % 100:=Mem.w64 (by omega) (by omega)
 have hb0:n≤1000000000000:=by omega
 have e6:IntKind.i64.wrap (n / 100)=n / 100:=iw64 (by omega) (by omega)
 have H2:=Hd h2
 clear h1 h2 G
 rcases hn with⟨g1,rfl,rfl⟩|⟨g1,rfl,rfl⟩
 ·have e4:wrap64 (-a)=-a:=Mem.w64 (by omega) (by omega)
  have z0:(ByteArray.mk #[45]).size=1:=rfl
  have z1:(ByteArray.mk #[45]++T2).size≤22:=by rw[ByteArray.size_append,z0];omega
  have z2:(ByteArray.mk #[45]++T2++ByteArray.mk #[46]).size≤23:=by rw[ByteArray.size_append];exact Nat.add_le_add z1 (Nat.le_refl 1)
  have z3:(T1.extract 1 3).size≤3:=by rw[ByteArray.size_extract];omega
  have A1:=fun W=>run_string_add_sum (P:=prog) W (ByteArray.mk #[45]) T2 (by rw[z0];omega)
  have A2:=fun W=>run_string_add_sum (P:=prog) W (ByteArray.mk #[45]++T2) (ByteArray.mk #[46]) (by have:(ByteArray.mk #[46]).size=1:=rfl;omega)
  have A3:=fun W=>run_string_add_sum (P:=prog) W (ByteArray.mk #[45]++T2++ByteArray.mk #[46]) (T1.extract 1 3) (by omega)
  clear z0 z1 z2 z3
  clear hb ha
  go_enter func202,ntmps202
  go_wp2_with (first
   |(go_at_call 264;refine(HR.out _).mono ?_;rintro e w1 ⟨rfl,rfl⟩)
   |(go_at_call 215;refine(H1.out _ HG.out).mono ?_;rintro e w2 ⟨rfl,hb⟩;have B2:=Hd hb;clear hb))
  go_region_held3 (fun _=>True) (exact trivial) (first
   |(go_at_call 215;go_must (refine(H2.out _ (HG.out.below ?_)).mono ?_;(repeat(first|exact B2.out|refine aB ?_ _|refine aI ?_|refine aL ?_ _));rintro e w3 ⟨rfl,hb⟩;have B3:=Hd hb;clear hb)))
  all_goals go_wp2
  all_goals go_ret
  all_goals exact⟨by rw[h3];rfl,by first|exact aD (aI B2.out) B3.out|exact aI (aD B2.out B3.out)|exact aD B2.out B3.out⟩
 ·have z0:(ByteArray.mk #[]).size=0:=rfl
  have z1:(ByteArray.mk #[]++T2).size≤22:=by rw[ByteArray.size_append,z0];omega
  have z2:(ByteArray.mk #[]++T2++ByteArray.mk #[46]).size≤23:=by rw[ByteArray.size_append];exact Nat.add_le_add z1 (Nat.le_refl 1)
  have z3:(T1.extract 1 3).size≤3:=by rw[ByteArray.size_extract];omega
  have A1:=fun W=>run_string_add_sum (P:=prog) W (ByteArray.mk #[]) T2 (by rw[z0];omega)
  have A2:=fun W=>run_string_add_sum (P:=prog) W (ByteArray.mk #[]++T2) (ByteArray.mk #[46]) (by have:(ByteArray.mk #[46]).size=1:=rfl;omega)
  have A3:=fun W=>run_string_add_sum (P:=prog) W (ByteArray.mk #[]++T2++ByteArray.mk #[46]) (T1.extract 1 3) (by omega)
  clear z0 z1 z2 z3
  clear hb ha
  go_enter func202,ntmps202
  go_wp2_with (first
   |(go_at_call 264;refine(HR.out _).mono ?_;rintro e w1 ⟨rfl,rfl⟩)
   |(go_at_call 215;refine(H1.out _ HG.out).mono ?_;rintro e w2 ⟨rfl,hb⟩;have B2:=Hd hb;clear hb))
  go_region_held3 (fun _=>True) (exact trivial) (first
   |(go_at_call 215;go_must (refine(H2.out _ (HG.out.below ?_)).mono ?_;(repeat(first|exact B2.out|refine aB ?_ _|refine aI ?_|refine aL ?_ _));rintro e w3 ⟨rfl,hb⟩;have B3:=Hd hb;clear hb)))
  all_goals go_wp2
  all_goals go_ret
  all_goals exact⟨by rw[h3];rfl,by first|exact aD (aI B2.out) B3.out|exact aI (aD B2.out B3.out)|exact aD B2.out B3.out⟩
theorem nV (a:Int) (w:World) (G:Gl w):Calls prog 202 #[.int .i64 a] w (Ret (.string (dR a)) w):=by
 unfold dR
 cases ha:dU a with
 |false=>exact aFt a ha w
 |true=>
  have hb:=pA ha
  rw[if_pos rfl]
  by_cases h:a<0
  ·rw[if_pos h]
   exact tE a (-a) _ _ _ ha (.inl ⟨h,rfl,rfl⟩) (fun W hW=>kH _ (by omega) W hW) (fun W hW=>kH _ (by omega) W hW) (rE _ (by omega) (by omega)) (mH _ (by omega)) w G
  ·rw[if_neg h]
   exact tE a a _ _ _ ha (.inr ⟨h,rfl,rfl⟩) (fun W hW=>kH _ (by omega) W hW) (fun W hW=>kH _ (by omega) W hW) (rE _ (by omega) (by omega)) (mH _ (by omega)) w G
end Go.Proofs.YtlibhkkckgkkkaaGreatDoor.Tf
namespace Go.Proofs.YtlibhkkckgkkkaaGreatDoor.Tf
open Go.RowKit Go.Proofs.YtlibhkkckgkkkaaGreatDoor.Mem Go.Proofs.YtlibhkkckgkkkaaGreatDoor.Boo Go.Proofs.Tryz
structure PH (s t whole rest:ByteArray) (f:Bool) (n:Int) (b:Bool):Prop where
 trim:∀W,Calls prog 277 #[.string s,.string ⟨#[45]⟩] W (Ret (.string t) W)
 cut:∀W,Gl W→Calls prog 106 #[.string t,.string ⟨#[46]⟩] W (Ret (.tuple #[.string whole,.string rest,.bool f]) W)
 count:∀W,Gl W→Calls prog 126 #[.string whole,.int .i64 10000000000] W (Ret (.int .i64 n) W)
 all:∀W,Calls prog 214 #[.string rest] W (Ret (.bool b) W)
theorem aG9 (s t whole rest:ByteArray) (f b:Bool) (n:Int) (P:PH s t whole rest f n b) (h:n<0∨rest.size≠2∨b=false) (w:World) (G:Gl w):
 Calls prog 216 #[.string s] w (Ret (.tuple #[.int .i64 0,.int .i64 20]) w):=by
 have HT:=Hd P.trim
 have HK:=Hd P.cut
 have HC:=Hd P.count
 have HA:=Hd P.all
 have HG:=Hd G
 clear P
 by_cases h1:n<0
 ·clear h
  go_enter func216,ntmps216
  go_wp2_with (first
   |(go_at_call 277;go_must (refine rB w (HT.out _) ?_;intro wq1 Bq1))
   |(go_at_call 106;go_must (refine rB w (HK.out _ (HG.out.below blw)) ?_;intro wq2 Bq2))
   |(go_at_call 126;go_must (refine rB w (HC.out _ (HG.out.below blw)) ?_;intro wq3 Bq3))
   |(go_at_call 214;go_must (refine rB w (HA.out _) ?_;intro wq4 Bq4)))
  first|go_ret|go_ret2
  exact⟨rfl,blw⟩
 ·by_cases h2:rest.size=2
  ·have h3:b=false:=by rcases h with h|h|h <;> simp_all
   subst h3
   have h2':(rest.size:Int)=2:=by omega
   clear h
   go_enter func216,ntmps216
   go_wp2_with (first
    |(go_at_call 277;go_must (refine rB w (HT.out _) ?_;intro wq5 Bq5))
    |(go_at_call 106;go_must (refine rB w (HK.out _ (HG.out.below blw)) ?_;intro wq6 Bq6))
    |(go_at_call 126;go_must (refine rB w (HC.out _ (HG.out.below blw)) ?_;intro wq7 Bq7))
    |(go_at_call 214;go_must (refine rB w (HA.out _) ?_;intro wq8 Bq8)))
   first|go_ret|go_ret2
   exact⟨rfl,blw⟩
  ·have h2':¬((rest.size:Int)=2):=by omega
   clear h
   go_enter func216,ntmps216
   go_wp2_with (first
    |(go_at_call 277;go_must (refine rB w (HT.out _) ?_;intro wq9 Bq9))
    |(go_at_call 106;go_must (refine rB w (HK.out _ (HG.out.below blw)) ?_;intro wq10 Bq10))
    |(go_at_call 126;go_must (refine rB w (HC.out _ (HG.out.below blw)) ?_;intro wq11 Bq11))
    |(go_at_call 214;go_must (refine rB w (HA.out _) ?_;intro wq12 Bq12)))
   first|go_ret|go_ret2
   exact⟨rfl,blw⟩
theorem aDu (s t whole rest T:ByteArray) (f:Bool) (n a:Int) (P:PH s t whole rest f n true) (h0:0≤n∧n≤10000000000) (hz:rest.size=2) (hs:0<s.size)
 (x0 x1:UInt8) (hx0:rest[0]'(by omega)=x0) (hx1:rest[1]'(by omega)=x1) (d0:48≤(x0.toNat:Int)∧(x0.toNat:Int)≤57) (d1:48≤(x1.toNat:Int)∧(x1.toNat:Int)≤57)
 (m:Int) (hm:m=n * 100+(x0.toNat-48) * 10+(x1.toNat-48)) (ha:a=if(s[0]'hs).toNat=45 then -m else m) (hX:∀W,Gl W→Calls prog 202 #[.int .i64 a] W (Ret (.string T) W)) (w:World) (G:Gl w):
 Calls prog 216 #[.string s] w (Ret (.tuple (if eqS T s then #[.int .i64 a,.int .i64 0] else #[.int .i64 0,.int .i64 20])) w):=by
 have HT:=Hd P.trim
 have HK:=Hd P.cut
 have HC:=Hd P.count
 have HA:=Hd P.all
 have HG:=Hd G
 clear P
 have g1:¬n<0:=by omega
 have z2:(rest.size:Int)=2:=by omega
 have z0:(0:Int)<(rest.size:Int):=by omega
 have z1:(1:Int)<(rest.size:Int):=by omega
 have zs:(0:Int)<(s.size:Int):=by omega
 have v1:wrap64 (n * 100)=n * 100:=Mem.w64 (by omega) (by omega)
 have v2:wrap64 (((x0.toNat:Int)-48) * 10)=(x0.toNat-48) * 10:=Mem.w64 (by omega) (by omega)
 have v3:wrap64 (n * 100+(x0.toNat-48) * 10)=n * 100+(x0.toNat-48) * 10:=Mem.w64 (by omega) (by omega)
 have v4:wrap64 (n * 100+(x0.toNat-48) * 10+(x1.toNat-48))=n * 100+(x0.toNat-48) * 10+(x1.toNat-48):=Mem.w64 (by omega) (by omega)
 subst hm
 by_cases hc:(s[0]'hs).toNat=45
 ·rw[if_pos hc] at ha
  subst ha
  have HX:=Hd hX
  clear hX
  have v5:wrap64 (-(n * 100+(x0.toNat-48) * 10+(x1.toNat-48)))=-(n * 100+(x0.toNat-48) * 10+(x1.toNat-48)):=Mem.w64 (by omega) (by omega)
  cases he:eqS T s with
  |true=>
   have g2:(T.toList==s.toList)=true:=he
   go_enter func216,ntmps216
   go_wp2_with (first
    |(go_at_call 277;go_must (refine rB w (HT.out _) ?_;intro wq13 Bq13))
    |(go_at_call 106;go_must (refine rB w (HK.out _ (HG.out.below blw)) ?_;intro wq14 Bq14))
    |(go_at_call 126;go_must (refine rB w (HC.out _ (HG.out.below blw)) ?_;intro wq15 Bq15))
    |(go_at_call 214;go_must (refine rB w (HA.out _) ?_;intro wq16 Bq16))
    |(go_at_call 202;go_must (refine rB w (HX.out _ (HG.out.below blw)) ?_;intro wq17 Bq17)))
   go_quiet (fail)
   go_wp2_with (first
    |(go_at_call 277;go_must (refine rB w (HT.out _) ?_;intro wq18 Bq18))
    |(go_at_call 106;go_must (refine rB w (HK.out _ (HG.out.below blw)) ?_;intro wq19 Bq19))
    |(go_at_call 126;go_must (refine rB w (HC.out _ (HG.out.below blw)) ?_;intro wq20 Bq20))
    |(go_at_call 214;go_must (refine rB w (HA.out _) ?_;intro wq21 Bq21))
    |(go_at_call 202;go_must (refine rB w (HX.out _ (HG.out.below blw)) ?_;intro wq22 Bq22)))
   first|go_ret|go_ret2
   exact⟨rfl,blw⟩
  |false=>
   have g2:(T.toList==s.toList)=false:=he
   go_enter func216,ntmps216
   go_wp2_with (first
    |(go_at_call 277;go_must (refine rB w (HT.out _) ?_;intro wq23 Bq23))
    |(go_at_call 106;go_must (refine rB w (HK.out _ (HG.out.below blw)) ?_;intro wq24 Bq24))
    |(go_at_call 126;go_must (refine rB w (HC.out _ (HG.out.below blw)) ?_;intro wq25 Bq25))
    |(go_at_call 214;go_must (refine rB w (HA.out _) ?_;intro wq26 Bq26))
    |(go_at_call 202;go_must (refine rB w (HX.out _ (HG.out.below blw)) ?_;intro wq27 Bq27)))
   go_quiet (fail)
   go_wp2_with (first
    |(go_at_call 277;go_must (refine rB w (HT.out _) ?_;intro wq28 Bq28))
    |(go_at_call 106;go_must (refine rB w (HK.out _ (HG.out.below blw)) ?_;intro wq29 Bq29))
    |(go_at_call 126;go_must (refine rB w (HC.out _ (HG.out.below blw)) ?_;intro wq30 Bq30))
    |(go_at_call 214;go_must (refine rB w (HA.out _) ?_;intro wq31 Bq31))
    |(go_at_call 202;go_must (refine rB w (HX.out _ (HG.out.below blw)) ?_;intro wq32 Bq32)))
   first|go_ret|go_ret2
   exact⟨rfl,blw⟩
 ·rw[if_neg hc] at ha
  subst ha
  have HX:=Hd hX
  clear hX
  cases he:eqS T s with
  |true=>
   have g2:(T.toList==s.toList)=true:=he
   go_enter func216,ntmps216
   go_wp2_with (first
    |(go_at_call 277;go_must (refine rB w (HT.out _) ?_;intro wq33 Bq33))
    |(go_at_call 106;go_must (refine rB w (HK.out _ (HG.out.below blw)) ?_;intro wq34 Bq34))
    |(go_at_call 126;go_must (refine rB w (HC.out _ (HG.out.below blw)) ?_;intro wq35 Bq35))
    |(go_at_call 214;go_must (refine rB w (HA.out _) ?_;intro wq36 Bq36))
    |(go_at_call 202;go_must (refine rB w (HX.out _ (HG.out.below blw)) ?_;intro wq37 Bq37)))
   go_quiet (fail)
   go_wp2_with (first
    |(go_at_call 277;go_must (refine rB w (HT.out _) ?_;intro wq38 Bq38))
    |(go_at_call 106;go_must (refine rB w (HK.out _ (HG.out.below blw)) ?_;intro wq39 Bq39))
    |(go_at_call 126;go_must (refine rB w (HC.out _ (HG.out.below blw)) ?_;intro wq40 Bq40))
    |(go_at_call 214;go_must (refine rB w (HA.out _) ?_;intro wq41 Bq41))
    |(go_at_call 202;go_must (refine rB w (HX.out _ (HG.out.below blw)) ?_;intro wq42 Bq42)))
   first|go_ret|go_ret2
   exact⟨rfl,blw⟩
  |false=>
   have g2:(T.toList==s.toList)=false:=he
   go_enter func216,ntmps216
   go_wp2_with (first
    |(go_at_call 277;go_must (refine rB w (HT.out _) ?_;intro wq43 Bq43))
    |(go_at_call 106;go_must (refine rB w (HK.out _ (HG.out.below blw)) ?_;intro wq44 Bq44))
    |(go_at_call 126;go_must (refine rB w (HC.out _ (HG.out.below blw)) ?_;intro wq45 Bq45))
    |(go_at_call 214;go_must (refine rB w (HA.out _) ?_;intro wq46 Bq46))
    |(go_at_call 202;go_must (refine rB w (HX.out _ (HG.out.below blw)) ?_;intro wq47 Bq47)))
   go_quiet (fail)
   go_wp2_with (first
    |(go_at_call 277;go_must (refine rB w (HT.out _) ?_;intro wq48 Bq48))
    |(go_at_call 106;go_must (refine rB w (HK.out _ (HG.out.below blw)) ?_;intro wq49 Bq49))
    |(go_at_call 126;go_must (refine rB w (HC.out _ (HG.out.below blw)) ?_;intro wq50 Bq50))
    |(go_at_call 214;go_must (refine rB w (HA.out _) ?_;intro wq51 Bq51))
    |(go_at_call 202;go_must (refine rB w (HX.out _ (HG.out.below blw)) ?_;intro wq52 Bq52)))
   first|go_ret|go_ret2
   exact⟨rfl,blw⟩
end Go.Proofs.YtlibhkkckgkkkaaGreatDoor.Tf
namespace Go.Proofs.YtlibhkkckgkkkaaGreatDoor.Tf
open Go.RowKit Go.Proofs.YtlibhkkckgkkkaaGreatDoor.Mem Go.Proofs.YtlibhkkckgkkkaaGreatDoor.Boo
abbrev bl (l:List UInt8):ByteArray:=⟨l.toArray⟩
def eS (s:List UInt8):Int:=
 let c:=Lib.cut (Lib.trimPrefix s [45]) [46]
 let n:=bU (bl c.1) 10000000000
 match c.2.1 with
 |[x0,x1]=>(if n<0∨bY x0=false∨bY x1=false then -1 else n * 100+(x0.toNat-48) * 10+(x1.toNat-48))
 |_=>-1
def eF (s:ByteArray):Int×Int:=
 if eS s.data.toList<0 then(0,20) else
  let a:=if s.data.toList.head?=some 45 then-eS s.data.toList else eS s.data.toList
  if eqS (dR a) s then(a,0) else(0,20)
theorem aE7 {s:ByteArray} {k:Int} (h:0≤bU s k):lH s=true∧bU s k≤k:=by
 unfold bU at h ⊢
 cases ha:lL s with
 |none=>rw[ha] at h;exact absurd (show(0:Int)≤-1 from h) (by decide)
 |some n=>
  rw[ha] at h
  by_cases hh:lH s=true∧¬(min k 1000000000000<n)∧eqS ⟨(Lib.itoa n).toArray⟩ s=true
  ·simp only[if_pos hh]
   obtain⟨h1,h2,h3⟩:=hh
   exact⟨h1,by omega⟩
  ·simp only[if_neg hh] at h
   omega
theorem qY (l p:List UInt8):(Lib.trimPrefix l p).length≤l.length:=by
 unfold Lib.trimPrefix
 split
 ·rw[List.length_drop];omega
 ·exact nR
theorem xO (l p:List UInt8):(Lib.cut l p).1.length≤l.length:=by
 unfold Lib.cut
 split
 ·simp[List.length_take];omega
 ·exact nR
theorem eM (l:List UInt8):(bl l).size=l.length:=by simp[ByteArray.size]
theorem oU (l:List UInt8):lH (bl l)=(!l.isEmpty&&l.all bY):=rfl
theorem aG7 (s:ByteArray) (hs:s.size<4294967281) (c:List UInt8×List UInt8×Bool) (hc:c=Lib.cut (Lib.trimPrefix s.data.toList [45]) [46]):
 PH s (bl (Lib.trimPrefix s.data.toList [45])) (bl c.1) (bl c.2.1) c.2.2 (bU (bl c.1) 10000000000) (lH (bl c.2.1)):=by
 have hl:=bI s
 have hz:(bl (Lib.trimPrefix s.data.toList [45])).size<4294967281:=by rw[eM];have:=qY s.data.toList [45];omega
 refine⟨fun W=>(Tryz.strings_TrimPrefix s ⟨#[45]⟩ W).mono fun e w' ⟨h1,h2⟩=>⟨h1,by rw[h2];exact bR⟩,fun W hW=>?_,fun W hW=>mN _ ?_ _ W hW,fun W=>aCi _ W⟩
 ·obtain⟨m,hm⟩:=hW.ml
  refine(Tryz.strings_Cut _ _ m W hz hm).mono fun e w' ⟨h1,n,h2⟩=>⟨?_,by rw[h2];exact aL bR n⟩
  rw[h1,hc]
 ·rw[eM]
  have h1:=qY s.data.toList [45]
  have h2:=xO (Lib.trimPrefix s.data.toList [45]) [46]
  rw[←hc] at h2
  omega
theorem pG (s:ByteArray) (hs:s.size<4294967281) (w:World) (G:Gl w):Calls Tryz.prog 216 #[.string s] w (Ret (.tuple #[.int .i64 (eF s).1,.int .i64 (eF s).2]) w):=by
 obtain⟨c,hc⟩:∃c,c=Lib.cut (Lib.trimPrefix s.data.toList [45]) [46]:=⟨_,rfl⟩
 have P:=aG7 s hs c hc
 have E:eS s.data.toList=match c.2.1 with
  |[x0,x1]=>(if bU (bl c.1) 10000000000<0∨bY x0=false∨bY x1=false then -1 else bU (bl c.1) 10000000000 * 100+(x0.toNat-48) * 10+(x1.toNat-48))
  |_=>-1:=by unfold eS;rw[←hc]
 have hno:(bU (bl c.1) 10000000000<0∨(bl c.2.1).size≠2∨lH (bl c.2.1)=false)→Calls Tryz.prog 216 #[.string s] w (Ret (.tuple #[.int .i64 (eF s).1,.int .i64 (eF s).2]) w):=by
  intro h
  have:eS s.data.toList<0:=by
   rw[E]
   split
   ·rename_i x0 x1 he
    rw[he] at h
    have:bU (bl c.1) 10000000000<0∨bY x0=false∨bY x1=false:=by
     rcases h with h|h|h
     ·exact .inl h
     ·exact absurd rfl h
     ·rw[oU] at h
      simp only[List.isEmpty_cons,Bool.not_false,Bool.true_and,List.all_cons,List.all_nil,Bool.and_true,Bool.and_eq_false_iff] at h
      exact .inr h
    rw[if_pos this]
    decide
   ·decide
  unfold eF
  rw[if_pos this]
  exact aG9 s _ _ _ _ _ _ P h w G
 by_cases h1:bU (bl c.1) 10000000000<0
 ·exact hno (.inl h1)
 by_cases h2:(bl c.2.1).size=2
 ·cases h3:lH (bl c.2.1) with
  |false=>exact hno (.inr (.inr h3))
  |true=>
   rw[h3] at P
   obtain⟨hb1,hb2⟩:=aE7 (by omega:0≤bU (bl c.1) 10000000000)
   generalize hn:bU (bl c.1) 10000000000=n at P E h1 hb2
   obtain⟨x0,x1,hx⟩:∃x0 x1,c.2.1=[x0,x1]:=by
    rw[eM] at h2
    match hcc:c.2.1,h2 with
    |[x0,x1],_=>exact⟨x0,x1,rfl⟩
   rw[hx] at E h3 P h2
   rw[oU] at h3
   simp only[List.isEmpty_cons,Bool.not_false,Bool.true_and,List.all_cons,List.all_nil,Bool.and_true,Bool.and_eq_true] at h3
   have d0:=of_decide_eq_true h3.1
   have d1:=of_decide_eq_true h3.2
   have E2:eS s.data.toList=n * 100+(x0.toNat-48) * 10+(x1.toNat-48):=by
    rw[E]
    simp only[h3.1,h3.2,h1,false_or,Bool.true_eq_false,if_false]
   have hsz:0<s.size:=by
    rw[oU] at hb1
    have hl:=bI s
    have ha:=qY s.data.toList [45]
    have hb:=xO (Lib.trimPrefix s.data.toList [45]) [46]
    rw[←hc] at hb
    rcases hcc:c.1 with _|⟨y,ys⟩
    ·rw[hcc] at hb1;exact absurd hb1 (by decide)
    ·rw[hcc,List.length_cons] at hb
     omega
   have hh:(s.data.toList.head?=some 45)↔((s[0]'hsz).toNat=45):=by
    have hg:s.data.toList.head?=some (s[0]'hsz):=by
     rw[List.head?_eq_getElem?]
     exact lE s 0 hsz
    rw[hg,Option.some.injEq]
    exact⟨fun h=>by rw[h];rfl,fun h=>UInt8.toNat_inj.1 h⟩
   have hp:¬eS s.data.toList<0:=by omega
   have hk:=aDu s _ _ _ (dR (if(s[0]'hsz).toNat=45 then -eS s.data.toList else eS s.data.toList)) _ n _ P (by omega) h2 hsz x0 x1 rfl rfl d0 d1 _ E2 rfl (fun W hW=>nV _ W hW) w G
   unfold eF
   rw[if_neg hp]
   have he2:(if s.data.toList.head?=some 45 then-eS s.data.toList else eS s.data.toList)=(if(s[0]'hsz).toNat=45 then -eS s.data.toList else eS s.data.toList):=by
    by_cases h:(s[0]'hsz).toNat=45
    ·rw[if_pos h,if_pos (hh.2 h)]
    ·rw[if_neg h,if_neg (fun k=>h (hh.1 k))]
   simp only[he2]
   revert hk
   cases eqS (dR (if(s[0]'hsz).toNat=45 then -eS s.data.toList else eS s.data.toList)) s <;> exact fun hk=>hk
 ·exact hno (.inr (.inl h2))
end Go.Proofs.YtlibhkkckgkkkaaGreatDoor.Tf
namespace Go.Proofs.YtlibhkkckgkkkaaGreatDoor.Tf
open Go.RowKit Go.Proofs.YtlibhkkckgkkkaaGreatDoor.Mem Go.Proofs.YtlibhkkckgkkkaaGreatDoor.Boo Go.Proofs.Tryz
theorem aF {B:Nat} {w W:World} (h:Below B w W) {p:Addr} (hp:B≤p.block) (v:Value):Below B w (W.setCell p v):=h.setCell hp v
structure Tok where
 k:Int
 s:ByteArray
 n:Int
 a:Int
def Tok.v (t:Tok):Value:=.agg #[.int .i64 t.k,.string t.s,.int .i64 t.n,.int .i64 t.a]
abbrev qJ:ByteArray:=⟨#[97,98,99,100,101,102,103,104,105,106,107,108,109,110,111,112,113,114,115,116,117,118,119,120,121,122,48,49,50,51,52,53,54,55,56,57,46]⟩
abbrev yF:ByteArray:=⟨#[40,41,44]⟩
def kE (s:ByteArray):Tok×Bool:=
 if jF s || aZ s then(⟨1,s,0,0⟩,true)
 else if 0≤bU s 100000 then(⟨2,s,bU s 100000,0⟩,true)
 else(⟨3,s,(eF s).1,0⟩,(eF s).2==0)
def dB (s:ByteArray):Tok×Bool:=
 if s.size=0 then(⟨5,⟨#[]⟩,0,0⟩,true)
 else if inB yF.data.toList (s.data.toList.headD 0) then(⟨4,s.extract 0 1,0,0⟩,true)
 else kE (s.extract 0 (jI s qJ).toNat)
theorem aEo (w:World):Calls prog 160 #[.string ⟨#[]⟩] w (Ret (.tuple #[Tok.v ⟨5,⟨#[]⟩,0,0⟩,.bool true]) w):=by
 go_enter func160,ntmps160
 go_wp2
 refine bodyPost_ret (v:=.tuple #[Tok.v ⟨5,⟨#[]⟩,0,0⟩,.bool true]) (by simp[results,results160,go_sem,Tok.v]) rfl ⟨rfl,blw⟩
theorem aM1 (s:ByteArray) (h:0<s.size):s.data.toList.headD 0=s[0]:=by
 have hb:=lE s 0 h
 cases hl:s.data.toList with
 |nil=>rw[hl] at hb;simp at hb
 |cons a l=>rw[hl] at hb;simpa using hb
theorem aAf (s:ByteArray) (h:0<s.size) (hi:inB yF.data.toList (s[0]'h)=true) (w:World):Calls prog 160 #[.string s] w (Ret (.tuple #[Tok.v ⟨4,s.extract 0 1,0,0⟩,.bool true]) w):=by
 have HI:=Hd (fun W=>uY yF (s[0]'h) W)
 rw[hi] at HI
 have e0:s.toList.isEmpty=false:=by rw[gQ];exact decide_eq_false (by omega)
 have z0:(0:Int)<(s.size:Int):=by omega
 have z1:(1:Int)≤(s.size:Int):=by omega
 clear hi
 go_enter func160,ntmps160
 go_wp2_with (first
  |(go_at_call 119;go_must (refine(HI.out _).mono ?_;rintro e W ⟨rfl,rfl⟩)))
 refine bodyPost_ret (v:=.tuple #[Tok.v ⟨4,s.extract 0 1,0,0⟩,.bool true]) (by simp[results,results160,go_sem,Tok.v]) rfl ⟨rfl,blw⟩
theorem qN (s t:ByteArray):0≤jI s t∧jI s t≤s.size:=by
 unfold jI
 by_cases h:fI (iT t.data.toList) s.data.toList=-1
 ·rw[if_pos h];omega
 ·rw[if_neg h]
  have:=aOi (iT t.data.toList) s.data.toList
  rw[bI] at this
  omega
theorem aIt (s:ByteArray) (k:Nat) (h:k≤s.size):(s.extract 0 k).size=k:=by rw[ByteArray.size_extract];omega
theorem aAg (s t:ByteArray) (h:0<s.size) (hs:s.size≤4000) (hi:inB yF.data.toList (s[0]'h)=false) (k:Nat) (hk:jI s qJ=k) (ht:s.extract 0 k=t) (w:World) (G:Gl w):
 Calls prog 160 #[.string s] w (Ret (.tuple #[Tok.v (kE t).1,.bool (kE t).2]) w):=by
 have hb:=qN s qJ
 rw[hk] at hb
 have hz:t.size≤4000:=by rw[←ht,aIt s k (by omega)];omega
 have HI:=Hd (fun W=>uY yF (s[0]'h) W)
 rw[hi] at HI
 have HR:=Hd (fun W=>mD s qJ W (by omega))
 rw[hk] at HR
 have HW:=Hd (fun W=>jE t W)
 have HN:=Hd (fun W=>eB t W (by omega))
 have HC:=Hd (fun W hW=>mN t (by omega) 100000 W hW)
 have HP:=Hd (fun W hW=>pG t (by omega) W hW)
 have HG:=Hd G
 have e0:s.toList.isEmpty=false:=by rw[gQ];exact decide_eq_false (by omega)
 have z0:(0:Int)<(s.size:Int):=by omega
 have z1:(0:Int)≤(k:Int):=by omega
 have z2:(k:Int)≤(s.size:Int):=by omega
 have HE:Hid (kE t=if jF t || aZ t then(⟨1,t,0,0⟩,true) else if 0≤bU t 100000 then(⟨2,t,bU t 100000,0⟩,true) else(⟨3,t,(eF t).1,0⟩,(eF t).2==0)):=Hd rfl
 generalize jF t=b1 at HW HE
 generalize aZ t=b2 at HN HE
 generalize bU t 100000=n at HC HE
 generalize (eF t).1=p1 at HP HE
 generalize (eF t).2=p2 at HP HE
 generalize kE t=r at HE ⊢
 clear hi hk hb G hz
 have HG0:=HG
 cases b1 with
 |true=>
  obtain rfl:=HE.out
  clear HE HN HC HP
  go_enter func160,ntmps160
  go_wp2_with (first
   |(go_at_call 119;go_must (refine(HI.out _).mono ?_;rintro e W ⟨rfl,rfl⟩))
   |(go_at_call 120;go_must (refine(HR.out _).mono ?_;rintro e W ⟨rfl,rfl⟩))
   |(go_at_call 121;go_must (refine rC w (HW.out _) ?_;intro wq1 hb Bq1;obtain⟨kc1_0_0,kc1_0_1,kc1_0_2,kc1_0_3⟩:wq1.cell? ⟨w.heap.size,0,none⟩=some (.int .i64 0)∧wq1.cell? ⟨w.heap.size,1,none⟩=some (.string ⟨#[]⟩)∧wq1.cell? ⟨w.heap.size,2,none⟩=some (.int .i64 0)∧wq1.cell? ⟨w.heap.size,3,none⟩=some (.int .i64 0):=⟨aC hb (by(first|assumption|(go_simp;done)|exact(Hid.out (by assumption)))),aC hb (by(first|assumption|(go_simp;done)|exact(Hid.out (by assumption)))),aC hb (by(first|assumption|(go_simp;done)|exact(Hid.out (by assumption)))),aC hb (by(first|assumption|(go_simp;done)|exact(Hid.out (by assumption))))⟩;have kf1_0:∀o,wq1.frozen? ⟨w.heap.size,o,none⟩=false:=(fun o=>(hb.frozen (p:=⟨w.heap.size,o,none⟩) (bL _ ⟨w.heap.size,0,none⟩ (show World.cell? _ _=some (.int .i64 0) from by(first|assumption|(go_simp;done)|exact(Hid.out (by assumption)))))).trans (by first|assumption|apply_assumption|(go_simp;done)));clear hb)))
  refine bodyPost_ret (v:=.tuple #[Tok.v ⟨1,t,0,0⟩,.bool true]) (by simp[results,results160,go_sem,Tok.v, *]) rfl ⟨rfl,blw⟩
 |false=>
  cases b2 with
  |true=>
   obtain rfl:=HE.out
   clear HE HC HP
   go_enter func160,ntmps160
   go_wp2_with (first
   |(go_at_call 119;go_must (refine(HI.out _).mono ?_;rintro e W ⟨rfl,rfl⟩))
   |(go_at_call 120;go_must (refine(HR.out _).mono ?_;rintro e W ⟨rfl,rfl⟩))
    |(go_at_call 121;go_must (refine rC w (HW.out _) ?_;intro wq2 hb Bq2;obtain⟨kc2_0_0,kc2_0_1,kc2_0_2,kc2_0_3⟩:wq2.cell? ⟨w.heap.size,0,none⟩=some (.int .i64 0)∧wq2.cell? ⟨w.heap.size,1,none⟩=some (.string ⟨#[]⟩)∧wq2.cell? ⟨w.heap.size,2,none⟩=some (.int .i64 0)∧wq2.cell? ⟨w.heap.size,3,none⟩=some (.int .i64 0):=⟨aC hb (by(first|assumption|(go_simp;done)|exact(Hid.out (by assumption)))),aC hb (by(first|assumption|(go_simp;done)|exact(Hid.out (by assumption)))),aC hb (by(first|assumption|(go_simp;done)|exact(Hid.out (by assumption)))),aC hb (by(first|assumption|(go_simp;done)|exact(Hid.out (by assumption))))⟩;have kf2_0:∀o,wq2.frozen? ⟨w.heap.size,o,none⟩=false:=(fun o=>(hb.frozen (p:=⟨w.heap.size,o,none⟩) (bL _ ⟨w.heap.size,0,none⟩ (show World.cell? _ _=some (.int .i64 0) from by(first|assumption|(go_simp;done)|exact(Hid.out (by assumption)))))).trans (by first|assumption|apply_assumption|(go_simp;done)));clear hb))
    |(go_at_call 60;go_must (refine rC w (HN.out _) ?_;intro wq3 hb Bq3;obtain⟨kc3_0_0,kc3_0_1,kc3_0_2,kc3_0_3⟩:wq3.cell? ⟨w.heap.size,0,none⟩=some (.int .i64 0)∧wq3.cell? ⟨w.heap.size,1,none⟩=some (.string ⟨#[]⟩)∧wq3.cell? ⟨w.heap.size,2,none⟩=some (.int .i64 0)∧wq3.cell? ⟨w.heap.size,3,none⟩=some (.int .i64 0):=⟨aC hb (by(first|assumption|(go_simp;done)|exact(Hid.out (by assumption)))),aC hb (by(first|assumption|(go_simp;done)|exact(Hid.out (by assumption)))),aC hb (by(first|assumption|(go_simp;done)|exact(Hid.out (by assumption)))),aC hb (by(first|assumption|(go_simp;done)|exact(Hid.out (by assumption))))⟩;have kf3_0:=(fun o=>(hb.frozen (p:=⟨w.heap.size,o,none⟩) (bL _ ⟨w.heap.size,0,none⟩ (show World.cell? _ _=some (.int .i64 0) from by(first|assumption|(go_simp;done)|exact(Hid.out (by assumption)))))).trans (by first|assumption|apply_assumption|(go_simp;done)));clear hb)))
   refine bodyPost_ret (v:=.tuple #[Tok.v ⟨1,t,0,0⟩,.bool true]) (by simp[results,results160,go_sem,Tok.v, *]) rfl ⟨rfl,blw⟩
  |false=>
   by_cases hn:0≤n
   ·obtain rfl:r=(⟨2,t,n,0⟩,true):=by rw[HE.out];simp[hn]
    clear HE HP
    go_enter func160,ntmps160
    go_wp2_with (first
   |(go_at_call 119;go_must (refine(HI.out _).mono ?_;rintro e W ⟨rfl,rfl⟩))
   |(go_at_call 120;go_must (refine(HR.out _).mono ?_;rintro e W ⟨rfl,rfl⟩))
      |(go_at_call 121;go_must (refine rC w (HW.out _) ?_;intro wq4 hb Bq4;obtain⟨kc4_0_0,kc4_0_1,kc4_0_2,kc4_0_3⟩:wq4.cell? ⟨w.heap.size,0,none⟩=some (.int .i64 0)∧wq4.cell? ⟨w.heap.size,1,none⟩=some (.string ⟨#[]⟩)∧wq4.cell? ⟨w.heap.size,2,none⟩=some (.int .i64 0)∧wq4.cell? ⟨w.heap.size,3,none⟩=some (.int .i64 0):=⟨aC hb (by(first|assumption|(go_simp;done)|exact(Hid.out (by assumption)))),aC hb (by(first|assumption|(go_simp;done)|exact(Hid.out (by assumption)))),aC hb (by(first|assumption|(go_simp;done)|exact(Hid.out (by assumption)))),aC hb (by(first|assumption|(go_simp;done)|exact(Hid.out (by assumption))))⟩;have kf4_0:∀o,wq4.frozen? ⟨w.heap.size,o,none⟩=false:=(fun o=>(hb.frozen (p:=⟨w.heap.size,o,none⟩) (bL _ ⟨w.heap.size,0,none⟩ (show World.cell? _ _=some (.int .i64 0) from by(first|assumption|(go_simp;done)|exact(Hid.out (by assumption)))))).trans (by first|assumption|apply_assumption|(go_simp;done)));clear hb))
      |(go_at_call 60;go_must (refine rC w (HN.out _) ?_;intro wq5 hb Bq5;obtain⟨kc5_0_0,kc5_0_1,kc5_0_2,kc5_0_3⟩:wq5.cell? ⟨w.heap.size,0,none⟩=some (.int .i64 0)∧wq5.cell? ⟨w.heap.size,1,none⟩=some (.string ⟨#[]⟩)∧wq5.cell? ⟨w.heap.size,2,none⟩=some (.int .i64 0)∧wq5.cell? ⟨w.heap.size,3,none⟩=some (.int .i64 0):=⟨aC hb (by(first|assumption|(go_simp;done)|exact(Hid.out (by assumption)))),aC hb (by(first|assumption|(go_simp;done)|exact(Hid.out (by assumption)))),aC hb (by(first|assumption|(go_simp;done)|exact(Hid.out (by assumption)))),aC hb (by(first|assumption|(go_simp;done)|exact(Hid.out (by assumption))))⟩;have kf5_0:=(fun o=>(hb.frozen (p:=⟨w.heap.size,o,none⟩) (bL _ ⟨w.heap.size,0,none⟩ (show World.cell? _ _=some (.int .i64 0) from by(first|assumption|(go_simp;done)|exact(Hid.out (by assumption)))))).trans (by first|assumption|apply_assumption|(go_simp;done)));clear hb))
      |(go_at_call 126;go_must (refine rC w (HC.out _ (HG.out.below blw)) ?_;intro wq6 hb Bq6;obtain⟨kc6_0_0,kc6_0_1,kc6_0_2,kc6_0_3⟩:wq6.cell? ⟨w.heap.size,0,none⟩=some (.int .i64 0)∧wq6.cell? ⟨w.heap.size,1,none⟩=some (.string ⟨#[]⟩)∧wq6.cell? ⟨w.heap.size,2,none⟩=some (.int .i64 0)∧wq6.cell? ⟨w.heap.size,3,none⟩=some (.int .i64 0):=⟨aC hb (by(first|assumption|(go_simp;done)|exact(Hid.out (by assumption)))),aC hb (by(first|assumption|(go_simp;done)|exact(Hid.out (by assumption)))),aC hb (by(first|assumption|(go_simp;done)|exact(Hid.out (by assumption)))),aC hb (by(first|assumption|(go_simp;done)|exact(Hid.out (by assumption))))⟩;have kf6_0:=(fun o=>(hb.frozen (p:=⟨w.heap.size,o,none⟩) (bL _ ⟨w.heap.size,0,none⟩ (show World.cell? _ _=some (.int .i64 0) from by(first|assumption|(go_simp;done)|exact(Hid.out (by assumption)))))).trans (by first|assumption|apply_assumption|(go_simp;done)));clear hb)))
    refine bodyPost_ret (v:=.tuple #[Tok.v ⟨2,t,n,0⟩,.bool true]) (by simp[results,results160,go_sem,Tok.v, *]) rfl ⟨rfl,blw⟩
   ·obtain rfl:r=(⟨3,t,p1,0⟩,p2==0):=by rw[HE.out];simp[hn]
    clear HE
    go_enter func160,ntmps160
    go_wp2_with (first
   |(go_at_call 119;go_must (refine(HI.out _).mono ?_;rintro e W ⟨rfl,rfl⟩))
   |(go_at_call 120;go_must (refine(HR.out _).mono ?_;rintro e W ⟨rfl,rfl⟩))
      |(go_at_call 121;go_must (refine rC w (HW.out _) ?_;intro wq7 hb Bq7;obtain⟨kc7_0_0,kc7_0_1,kc7_0_2,kc7_0_3⟩:wq7.cell? ⟨w.heap.size,0,none⟩=some (.int .i64 0)∧wq7.cell? ⟨w.heap.size,1,none⟩=some (.string ⟨#[]⟩)∧wq7.cell? ⟨w.heap.size,2,none⟩=some (.int .i64 0)∧wq7.cell? ⟨w.heap.size,3,none⟩=some (.int .i64 0):=⟨aC hb (by(first|assumption|(go_simp;done)|exact(Hid.out (by assumption)))),aC hb (by(first|assumption|(go_simp;done)|exact(Hid.out (by assumption)))),aC hb (by(first|assumption|(go_simp;done)|exact(Hid.out (by assumption)))),aC hb (by(first|assumption|(go_simp;done)|exact(Hid.out (by assumption))))⟩;have kf7_0:∀o,wq7.frozen? ⟨w.heap.size,o,none⟩=false:=(fun o=>(hb.frozen (p:=⟨w.heap.size,o,none⟩) (bL _ ⟨w.heap.size,0,none⟩ (show World.cell? _ _=some (.int .i64 0) from by(first|assumption|(go_simp;done)|exact(Hid.out (by assumption)))))).trans (by first|assumption|apply_assumption|(go_simp;done)));clear hb))
      |(go_at_call 60;go_must (refine rC w (HN.out _) ?_;intro wq8 hb Bq8;obtain⟨kc8_0_0,kc8_0_1,kc8_0_2,kc8_0_3⟩:wq8.cell? ⟨w.heap.size,0,none⟩=some (.int .i64 0)∧wq8.cell? ⟨w.heap.size,1,none⟩=some (.string ⟨#[]⟩)∧wq8.cell? ⟨w.heap.size,2,none⟩=some (.int .i64 0)∧wq8.cell? ⟨w.heap.size,3,none⟩=some (.int .i64 0):=⟨aC hb (by(first|assumption|(go_simp;done)|exact(Hid.out (by assumption)))),aC hb (by(first|assumption|(go_simp;done)|exact(Hid.out (by assumption)))),aC hb (by(first|assumption|(go_simp;done)|exact(Hid.out (by assumption)))),aC hb (by(first|assumption|(go_simp;done)|exact(Hid.out (by assumption))))⟩;have kf8_0:=(fun o=>(hb.frozen (p:=⟨w.heap.size,o,none⟩) (bL _ ⟨w.heap.size,0,none⟩ (show World.cell? _ _=some (.int .i64 0) from by(first|assumption|(go_simp;done)|exact(Hid.out (by assumption)))))).trans (by first|assumption|apply_assumption|(go_simp;done)));clear hb))
      |(go_at_call 126;go_must (refine rC w (HC.out _ (HG.out.below blw)) ?_;intro wq9 hb Bq9;obtain⟨kc9_0_0,kc9_0_1,kc9_0_2,kc9_0_3⟩:wq9.cell? ⟨w.heap.size,0,none⟩=some (.int .i64 0)∧wq9.cell? ⟨w.heap.size,1,none⟩=some (.string ⟨#[]⟩)∧wq9.cell? ⟨w.heap.size,2,none⟩=some (.int .i64 0)∧wq9.cell? ⟨w.heap.size,3,none⟩=some (.int .i64 0):=⟨aC hb (by(first|assumption|(go_simp;done)|exact(Hid.out (by assumption)))),aC hb (by(first|assumption|(go_simp;done)|exact(Hid.out (by assumption)))),aC hb (by(first|assumption|(go_simp;done)|exact(Hid.out (by assumption)))),aC hb (by(first|assumption|(go_simp;done)|exact(Hid.out (by assumption))))⟩;have kf9_0:=(fun o=>(hb.frozen (p:=⟨w.heap.size,o,none⟩) (bL _ ⟨w.heap.size,0,none⟩ (show World.cell? _ _=some (.int .i64 0) from by(first|assumption|(go_simp;done)|exact(Hid.out (by assumption)))))).trans (by first|assumption|apply_assumption|(go_simp;done)));clear hb))
      |(go_at_call 216;go_must (refine rC w (HP.out _ (HG.out.below blw)) ?_;intro wq10 hb Bq10;obtain⟨kc10_0_0,kc10_0_1,kc10_0_2,kc10_0_3⟩:wq10.cell? ⟨w.heap.size,0,none⟩=some (.int .i64 0)∧wq10.cell? ⟨w.heap.size,1,none⟩=some (.string ⟨#[]⟩)∧wq10.cell? ⟨w.heap.size,2,none⟩=some (.int .i64 0)∧wq10.cell? ⟨w.heap.size,3,none⟩=some (.int .i64 0):=⟨aC hb (by(first|assumption|(go_simp;done)|exact(Hid.out (by assumption)))),aC hb (by(first|assumption|(go_simp;done)|exact(Hid.out (by assumption)))),aC hb (by(first|assumption|(go_simp;done)|exact(Hid.out (by assumption)))),aC hb (by(first|assumption|(go_simp;done)|exact(Hid.out (by assumption))))⟩;have kf10_0:=(fun o=>(hb.frozen (p:=⟨w.heap.size,o,none⟩) (bL _ ⟨w.heap.size,0,none⟩ (show World.cell? _ _=some (.int .i64 0) from by(first|assumption|(go_simp;done)|exact(Hid.out (by assumption)))))).trans (by first|assumption|apply_assumption|(go_simp;done)));clear hb)))
    refine bodyPost_ret (v:=.tuple #[Tok.v ⟨3,t,p1,0⟩,.bool (p2==0)]) (by simp[results,results160,go_sem,Tok.v, *]) rfl ⟨rfl,blw⟩
theorem aEp (s:ByteArray) (hs:s.size≤4000) (w:World) (G:Gl w):
 Calls prog 160 #[.string s] w (Ret (.tuple #[Tok.v (dB s).1,.bool (dB s).2]) w):=by
 unfold dB
 by_cases h:s.size=0
 ·obtain rfl:s=⟨#[]⟩:=ByteArray.ext (Array.eq_empty_of_size_eq_zero h)
  exact aEo w
 ·rw[if_neg h,aM1 s (by omega)]
  cases hi:inB yF.data.toList (s[0]'(by omega)) with
  |true=>exact aAf s (by omega) hi w
  |false=>exact aAg s _ (by omega) hs hi (jI s qJ).toNat (by have:=qN s qJ;omega) rfl w G
end Go.Proofs.YtlibhkkckgkkkaaGreatDoor.Tf
namespace Go.Proofs.YtlibhkkckgkkkaaGreatDoor.Tf
open Go.RowKit Go.Proofs.YtlibhkkckgkkkaaGreatDoor.Mem Go.Proofs.YtlibhkkckgkkkaaGreatDoor.Boo
abbrev gG:ByteArray:=⟨#[32]⟩
theorem aH8 (c:UInt8) (l m:List UInt8) (h:∀x∈l,x≠c):Lib.index (l++c::m) [c]=l.length:=by
 induction l with
 |nil=>simp[Lib.index]
 |cons a l ih=>
  have hne:=bN (fun e=>h a (by simp) e.symm)
  rw[List.cons_append,Lib.index]
  simp only[List.isPrefixOf,hne,Bool.false_and]
  rw[ih (fun x hx=>h x (by simp[hx]))]
  have:((l.length:Int)==-1)=false:=by rw[beq_eq_false_iff_ne];omega
  simp[this]
theorem aH7 (c:UInt8) (l:List UInt8) (h:∀x∈l,x≠c):Lib.index l [c]=-1:=by
 induction l with
 |nil=>simp[Lib.index]
 |cons a l ih=>
  have hne:=bN (fun e=>h a (by simp) e.symm)
  rw[Lib.index]
  simp only[List.isPrefixOf,hne,Bool.false_and]
  rw[ih (fun x hx=>h x (by simp[hx]))]
  simp
def jn:List UInt8→List (List UInt8)→List UInt8
 |x,[]=>x
 |x,y::r=>x++32::jn y r
theorem aIs (l m:List UInt8):(bl (l++m)).extract 0 (l.length+0)=bl l:=by
 apply ByteArray.ext
 apply Array.ext'
 show((bl (l++m)).extract 0 (l.length+0)).data.toList=l
 rw[ByteArray.data_extract,Array.toList_extract,List.extract_eq_take_drop]
 simp
theorem xE (l m:List UInt8) (c:UInt8):(bl (l++c::m)).extract (l.length+gG.size) (bl (l++c::m)).size=bl m:=by
 apply ByteArray.ext
 apply Array.ext'
 show((bl (l++c::m)).extract (l.length+1) _).data.toList=m
 rw[ByteArray.data_extract,Array.toList_extract,List.extract_eq_take_drop,eM]
 rw[lA,List.length_cons,show l.length+(m.length+1)-(l.length+1)=m.length by omega,List.drop_append,List.drop_of_length_le (by omega),show l.length+1-l.length=1 by omega]
 simp
theorem vT:∀(xs:List (List UInt8)) (x:List UInt8),(∀y∈x::xs,∀c∈y,c≠32)→Lib.splitB gG 0 xs.length (bl (jn x xs))=(x::xs).map bl∧Lib.countB (bl (jn x xs)) gG=xs.length
 |[],x,h=>⟨rfl,Lib.countB_miss _ _ (aH7 32 x (h x (by simp)))⟩
 |y::r,x,h=>by
  have hi:Lib.indexB (bl (jn x (y::r))) gG=x.length:=aH8 32 x (jn y r) (h x (by simp))
  obtain⟨i1,i2⟩:=vT r y (fun z hz=>h z (by simp only[List.mem_cons] at hz ⊢;exact .inr hz))
  constructor
  ·rw[List.length_cons,Lib.splitB_hit gG 0 _ _ _ hi]
   show(bl (x++32::jn y r)).extract 0 _::_=_
   rw[aIs,show(bl (jn x (y::r)))=bl (x++32::jn y r) from rfl,xE,i1]
   rfl
  ·rw[Lib.countB_hit _ _ _ (by decide) hi,show(bl (jn x (y::r)))=bl (x++32::jn y r) from rfl,xE,i2,List.length_cons]
   omega
end Go.Proofs.YtlibhkkckgkkkaaGreatDoor.Tf
