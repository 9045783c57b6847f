/- Part of the proof of TopFeeds: BooJ AwA BooK BooP. -/
import Derived.Test.YtlibhkkckgkkkaaGreatDoorZAF
set_option maxHeartbeats 1000000
set_option maxRecDepth 100000
namespace Go.Proofs.YtlibhkkckgkkkaaGreatDoor.Boo
open Go.RowKit Go.Proofs.YtlibhkkckgkkkaaGreatDoor.Mem Go.Proofs.Tryz
def dG (c n:Int):Int:=if c<0 then(-(c+1)) % n else c % n
theorem lW (c n:Int) (hc:c<0):-((c+1).tmod n)=(-(c+1)) % n:=by
 rw[←Int.neg_tmod,Int.tmod_eq_emod_of_nonneg (by omega)]
theorem iP (c n:Int) (hn:0<n):0≤dG c n∧dG c n<n:=by
 unfold dG
 split
 ·exact⟨Int.emod_nonneg _ (by omega),Int.emod_lt_of_pos _ hn⟩
 ·exact⟨Int.emod_nonneg _ (by omega),Int.emod_lt_of_pos _ hn⟩
def I64 (a:Int):Prop:=-9223372036854775808≤a∧a≤9223372036854775807
theorem zG (c n:Int) (w:World) (h:I64 c) (hn:0<n):Calls prog 57 #[.int .i64 c,.int .i64 n] w fun e w'=>e=.returned (.int .i64 (dG c n))∧w=w':=by
 obtain⟨h,h'⟩:=h
 by_cases hc:c<0
 ·rw[show dG c n=(-(c+1)) % n from if_pos hc]
  go_enter func57,ntmps57
  go_wp2
  go_ret
  exact⟨kD (lW c n hc),rfl⟩
 ·rw[show dG c n=c % n from if_neg hc]
  go_enter func57,ntmps57
  go_wp2
  go_ret
  exact⟨rfl,rfl⟩
def nH (q:Nat):ByteArray:=⟨#[(48+q).toUInt8]⟩
theorem aNq (q:Nat) (hq:q<10) (w:World):Calls prog 58 #[.int .i64 q] w (Ret (.string (nH q)) w):=by
 rcases q with _|_|_|_|_|_|_|_|_|_|q
 ·show Calls prog 58 #[.int .i64 0] w (Ret (.string ⟨#[48]⟩) w)
  have hcv:(convert 117 9 (.slice (some ⟨w.heap.size,0,none⟩) 1 1)).run prog (w.alloc (.cells #[.int .u8 48] 5))=.ok (.string ⟨#[48]⟩) (w.alloc (.cells #[.int .u8 48] 5)):=
   run_convert_bytes_arg (P:=prog) (w.alloc (.cells #[.int .u8 48] 5)) 117 5 underlying117 underlying5 w.heap.size 0 1 1 [48] rfl (fun i hi=>by obtain rfl:i=0:=(by omega);exact aS w #[.int .u8 48] 5 0) 9 underlying9
  go_enter func58,ntmps58
  go_wp2
  go_ret
  exact⟨rfl,aB bR _⟩
 ·show Calls prog 58 #[.int .i64 1] w (Ret (.string ⟨#[49]⟩) w)
  have hcv:(convert 117 9 (.slice (some ⟨w.heap.size,0,none⟩) 1 1)).run prog (w.alloc (.cells #[.int .u8 49] 5))=.ok (.string ⟨#[49]⟩) (w.alloc (.cells #[.int .u8 49] 5)):=
   run_convert_bytes_arg (P:=prog) (w.alloc (.cells #[.int .u8 49] 5)) 117 5 underlying117 underlying5 w.heap.size 0 1 1 [49] rfl (fun i hi=>by obtain rfl:i=0:=(by omega);exact aS w #[.int .u8 49] 5 0) 9 underlying9
  go_enter func58,ntmps58
  go_wp2
  go_ret
  exact⟨rfl,aB bR _⟩
 ·show Calls prog 58 #[.int .i64 2] w (Ret (.string ⟨#[50]⟩) w)
  have hcv:(convert 117 9 (.slice (some ⟨w.heap.size,0,none⟩) 1 1)).run prog (w.alloc (.cells #[.int .u8 50] 5))=.ok (.string ⟨#[50]⟩) (w.alloc (.cells #[.int .u8 50] 5)):=
   run_convert_bytes_arg (P:=prog) (w.alloc (.cells #[.int .u8 50] 5)) 117 5 underlying117 underlying5 w.heap.size 0 1 1 [50] rfl (fun i hi=>by obtain rfl:i=0:=(by omega);exact aS w #[.int .u8 50] 5 0) 9 underlying9
  go_enter func58,ntmps58
  go_wp2
  go_ret
  exact⟨rfl,aB bR _⟩
 ·show Calls prog 58 #[.int .i64 3] w (Ret (.string ⟨#[51]⟩) w)
  have hcv:(convert 117 9 (.slice (some ⟨w.heap.size,0,none⟩) 1 1)).run prog (w.alloc (.cells #[.int .u8 51] 5))=.ok (.string ⟨#[51]⟩) (w.alloc (.cells #[.int .u8 51] 5)):=
   run_convert_bytes_arg (P:=prog) (w.alloc (.cells #[.int .u8 51] 5)) 117 5 underlying117 underlying5 w.heap.size 0 1 1 [51] rfl (fun i hi=>by obtain rfl:i=0:=(by omega);exact aS w #[.int .u8 51] 5 0) 9 underlying9
  go_enter func58,ntmps58
  go_wp2
  go_ret
  exact⟨rfl,aB bR _⟩
 ·show Calls prog 58 #[.int .i64 4] w (Ret (.string ⟨#[52]⟩) w)
  have hcv:(convert 117 9 (.slice (some ⟨w.heap.size,0,none⟩) 1 1)).run prog (w.alloc (.cells #[.int .u8 52] 5))=.ok (.string ⟨#[52]⟩) (w.alloc (.cells #[.int .u8 52] 5)):=
   run_convert_bytes_arg (P:=prog) (w.alloc (.cells #[.int .u8 52] 5)) 117 5 underlying117 underlying5 w.heap.size 0 1 1 [52] rfl (fun i hi=>by obtain rfl:i=0:=(by omega);exact aS w #[.int .u8 52] 5 0) 9 underlying9
  go_enter func58,ntmps58
  go_wp2
  go_ret
  exact⟨rfl,aB bR _⟩
 ·show Calls prog 58 #[.int .i64 5] w (Ret (.string ⟨#[53]⟩) w)
  have hcv:(convert 117 9 (.slice (some ⟨w.heap.size,0,none⟩) 1 1)).run prog (w.alloc (.cells #[.int .u8 53] 5))=.ok (.string ⟨#[53]⟩) (w.alloc (.cells #[.int .u8 53] 5)):=
   run_convert_bytes_arg (P:=prog) (w.alloc (.cells #[.int .u8 53] 5)) 117 5 underlying117 underlying5 w.heap.size 0 1 1 [53] rfl (fun i hi=>by obtain rfl:i=0:=(by omega);exact aS w #[.int .u8 53] 5 0) 9 underlying9
  go_enter func58,ntmps58
  go_wp2
  go_ret
  exact⟨rfl,aB bR _⟩
 ·show Calls prog 58 #[.int .i64 6] w (Ret (.string ⟨#[54]⟩) w)
  have hcv:(convert 117 9 (.slice (some ⟨w.heap.size,0,none⟩) 1 1)).run prog (w.alloc (.cells #[.int .u8 54] 5))=.ok (.string ⟨#[54]⟩) (w.alloc (.cells #[.int .u8 54] 5)):=
   run_convert_bytes_arg (P:=prog) (w.alloc (.cells #[.int .u8 54] 5)) 117 5 underlying117 underlying5 w.heap.size 0 1 1 [54] rfl (fun i hi=>by obtain rfl:i=0:=(by omega);exact aS w #[.int .u8 54] 5 0) 9 underlying9
  go_enter func58,ntmps58
  go_wp2
  go_ret
  exact⟨rfl,aB bR _⟩
 ·show Calls prog 58 #[.int .i64 7] w (Ret (.string ⟨#[55]⟩) w)
  have hcv:(convert 117 9 (.slice (some ⟨w.heap.size,0,none⟩) 1 1)).run prog (w.alloc (.cells #[.int .u8 55] 5))=.ok (.string ⟨#[55]⟩) (w.alloc (.cells #[.int .u8 55] 5)):=
   run_convert_bytes_arg (P:=prog) (w.alloc (.cells #[.int .u8 55] 5)) 117 5 underlying117 underlying5 w.heap.size 0 1 1 [55] rfl (fun i hi=>by obtain rfl:i=0:=(by omega);exact aS w #[.int .u8 55] 5 0) 9 underlying9
  go_enter func58,ntmps58
  go_wp2
  go_ret
  exact⟨rfl,aB bR _⟩
 ·show Calls prog 58 #[.int .i64 8] w (Ret (.string ⟨#[56]⟩) w)
  have hcv:(convert 117 9 (.slice (some ⟨w.heap.size,0,none⟩) 1 1)).run prog (w.alloc (.cells #[.int .u8 56] 5))=.ok (.string ⟨#[56]⟩) (w.alloc (.cells #[.int .u8 56] 5)):=
   run_convert_bytes_arg (P:=prog) (w.alloc (.cells #[.int .u8 56] 5)) 117 5 underlying117 underlying5 w.heap.size 0 1 1 [56] rfl (fun i hi=>by obtain rfl:i=0:=(by omega);exact aS w #[.int .u8 56] 5 0) 9 underlying9
  go_enter func58,ntmps58
  go_wp2
  go_ret
  exact⟨rfl,aB bR _⟩
 ·show Calls prog 58 #[.int .i64 9] w (Ret (.string ⟨#[57]⟩) w)
  have hcv:(convert 117 9 (.slice (some ⟨w.heap.size,0,none⟩) 1 1)).run prog (w.alloc (.cells #[.int .u8 57] 5))=.ok (.string ⟨#[57]⟩) (w.alloc (.cells #[.int .u8 57] 5)):=
   run_convert_bytes_arg (P:=prog) (w.alloc (.cells #[.int .u8 57] 5)) 117 5 underlying117 underlying5 w.heap.size 0 1 1 [57] rfl (fun i hi=>by obtain rfl:i=0:=(by omega);exact aS w #[.int .u8 57] 5 0) 9 underlying9
  go_enter func58,ntmps58
  go_wp2
  go_ret
  exact⟨rfl,aB bR _⟩
 ·omega
abbrev C6:Array Value:=#[.string ⟨#[97]⟩,.string ⟨#[98,111,98]⟩,.string ⟨#[108,111,119,101,115]⟩,.string ⟨#[97,99,109,101,57]⟩,.string ⟨#[120,49]⟩,.string ⟨#[101,108,115,101,101]⟩]
def W6:List ByteArray:=[⟨#[97]⟩,⟨#[98,111,98]⟩,⟨#[108,111,119,101,115]⟩,⟨#[97,99,109,101,57]⟩,⟨#[120,49]⟩,⟨#[101,108,115,101,101]⟩]
theorem pO (q:Nat) (hq:q<10) (a:Int) (W:World) (h:a=(q:Int)):Calls prog 58 #[.int .i64 a] W (Ret (.string (nH q)) W):=by subst h;exact aNq q hq W
def aSa (r:Nat):ByteArray:=W6.getD r ⟨#[]⟩
def aK (k:Nat):ByteArray:=aSa (k % 6)++nH (k / 6)
theorem aGg (n κ:Int) (q:Nat) (w:World) (HP:Hid (∀W,Calls prog 57 #[.int .i64 n,.int .i64 60] W fun e w'=>e=.returned (.int .i64 κ)∧W=w')) (h8:0≤κ) (h6':κ % 6=0) (h7:κ / 6=(q:Int)) (hq10:q<10):
 Calls prog 20 #[.int .i64 n] w (Ret (.string (⟨#[97]⟩++nH q)) w):=by
 have HD:=Hd (fun(a:Int) (W:World) (h:a=(q:Int))=>pO q hq10 a W h)
 have hz:(nH q).size=1:=rfl
 have h11:IntKind.i64.wrap (q:Int)=(q:Int):=IntWalk.i64_in _ (by omega)
 have h9:κ.tmod 6=0:=by rw[Int.tmod_eq_emod_of_nonneg h8];exact h6'
 have h10:κ.tdiv 6=(q:Int):=by rw[Int.tdiv_eq_ediv_of_nonneg h8];exact h7
 go_enter func20,ntmps20
 go_wp2_with (go_at_call 57;refine(HP.out _).mono ?_;rintro e w1 ⟨rfl,rfl⟩)
 go_region_with (go_at_call 58;refine(HD.out _ _ (by with_reducible first|exact h11|exact h7|exact h10|rfl)).mono ?_;rintro e w2 ⟨rfl,hbel⟩;have HB:=Hd hbel;(try have hcl:=aC hbel (aS _ C6 9 0));clear hbel)
 all_goals go_wp2
 all_goals go_ret
 all_goals refine⟨rfl,?_⟩
 all_goals first|exact aB (bF (aI bR) nR HB.out) _|exact bF (aI (aB bR _)) (by simp) HB.out
theorem aGf (n κ:Int) (q:Nat) (w:World) (HP:Hid (∀W,Calls prog 57 #[.int .i64 n,.int .i64 60] W fun e w'=>e=.returned (.int .i64 κ)∧W=w')) (h8:0≤κ) (h6':κ % 6=1) (h7:κ / 6=(q:Int)) (hq10:q<10):
 Calls prog 20 #[.int .i64 n] w (Ret (.string (⟨#[98,111,98]⟩++nH q)) w):=by
 have HD:=Hd (fun(a:Int) (W:World) (h:a=(q:Int))=>pO q hq10 a W h)
 have hz:(nH q).size=1:=rfl
 have h11:IntKind.i64.wrap (q:Int)=(q:Int):=IntWalk.i64_in _ (by omega)
 have h9:κ.tmod 6=1:=by rw[Int.tmod_eq_emod_of_nonneg h8];exact h6'
 have h10:κ.tdiv 6=(q:Int):=by rw[Int.tdiv_eq_ediv_of_nonneg h8];exact h7
 go_enter func20,ntmps20
 go_wp2_with (go_at_call 57;refine(HP.out _).mono ?_;rintro e w1 ⟨rfl,rfl⟩)
 go_region_with (go_at_call 58;refine(HD.out _ _ (by with_reducible first|exact h11|exact h7|exact h10|rfl)).mono ?_;rintro e w2 ⟨rfl,hbel⟩;have HB:=Hd hbel;(try have hcl:=aC hbel (aS _ C6 9 1));clear hbel)
 all_goals go_wp2
 all_goals go_ret
 all_goals refine⟨rfl,?_⟩
 all_goals first|exact aB (bF (aI bR) nR HB.out) _|exact bF (aI (aB bR _)) (by simp) HB.out
theorem aGe (n κ:Int) (q:Nat) (w:World) (HP:Hid (∀W,Calls prog 57 #[.int .i64 n,.int .i64 60] W fun e w'=>e=.returned (.int .i64 κ)∧W=w')) (h8:0≤κ) (h6':κ % 6=2) (h7:κ / 6=(q:Int)) (hq10:q<10):
 Calls prog 20 #[.int .i64 n] w (Ret (.string (⟨#[108,111,119,101,115]⟩++nH q)) w):=by
 have HD:=Hd (fun(a:Int) (W:World) (h:a=(q:Int))=>pO q hq10 a W h)
 have hz:(nH q).size=1:=rfl
 have h11:IntKind.i64.wrap (q:Int)=(q:Int):=IntWalk.i64_in _ (by omega)
 have h9:κ.tmod 6=2:=by rw[Int.tmod_eq_emod_of_nonneg h8];exact h6'
 have h10:κ.tdiv 6=(q:Int):=by rw[Int.tdiv_eq_ediv_of_nonneg h8];exact h7
 go_enter func20,ntmps20
 go_wp2_with (go_at_call 57;refine(HP.out _).mono ?_;rintro e w1 ⟨rfl,rfl⟩)
 go_region_with (go_at_call 58;refine(HD.out _ _ (by with_reducible first|exact h11|exact h7|exact h10|rfl)).mono ?_;rintro e w2 ⟨rfl,hbel⟩;have HB:=Hd hbel;(try have hcl:=aC hbel (aS _ C6 9 2));clear hbel)
 all_goals go_wp2
 all_goals go_ret
 all_goals refine⟨rfl,?_⟩
 all_goals first|exact aB (bF (aI bR) nR HB.out) _|exact bF (aI (aB bR _)) (by simp) HB.out
theorem aGd (n κ:Int) (q:Nat) (w:World) (HP:Hid (∀W,Calls prog 57 #[.int .i64 n,.int .i64 60] W fun e w'=>e=.returned (.int .i64 κ)∧W=w')) (h8:0≤κ) (h6':κ % 6=3) (h7:κ / 6=(q:Int)) (hq10:q<10):
 Calls prog 20 #[.int .i64 n] w (Ret (.string (⟨#[97,99,109,101,57]⟩++nH q)) w):=by
 have HD:=Hd (fun(a:Int) (W:World) (h:a=(q:Int))=>pO q hq10 a W h)
 have hz:(nH q).size=1:=rfl
 have h11:IntKind.i64.wrap (q:Int)=(q:Int):=IntWalk.i64_in _ (by omega)
 have h9:κ.tmod 6=3:=by rw[Int.tmod_eq_emod_of_nonneg h8];exact h6'
 have h10:κ.tdiv 6=(q:Int):=by rw[Int.tdiv_eq_ediv_of_nonneg h8];exact h7
 go_enter func20,ntmps20
 go_wp2_with (go_at_call 57;refine(HP.out _).mono ?_;rintro e w1 ⟨rfl,rfl⟩)
 go_region_with (go_at_call 58;refine(HD.out _ _ (by with_reducible first|exact h11|exact h7|exact h10|rfl)).mono ?_;rintro e w2 ⟨rfl,hbel⟩;have HB:=Hd hbel;(try have hcl:=aC hbel (aS _ C6 9 3));clear hbel)
 all_goals go_wp2
 all_goals go_ret
 all_goals refine⟨rfl,?_⟩
 all_goals first|exact aB (bF (aI bR) nR HB.out) _|exact bF (aI (aB bR _)) (by simp) HB.out
theorem aGc (n κ:Int) (q:Nat) (w:World) (HP:Hid (∀W,Calls prog 57 #[.int .i64 n,.int .i64 60] W fun e w'=>e=.returned (.int .i64 κ)∧W=w')) (h8:0≤κ) (h6':κ % 6=4) (h7:κ / 6=(q:Int)) (hq10:q<10):
 Calls prog 20 #[.int .i64 n] w (Ret (.string (⟨#[120,49]⟩++nH q)) w):=by
 have HD:=Hd (fun(a:Int) (W:World) (h:a=(q:Int))=>pO q hq10 a W h)
 have hz:(nH q).size=1:=rfl
 have h11:IntKind.i64.wrap (q:Int)=(q:Int):=IntWalk.i64_in _ (by omega)
 have h9:κ.tmod 6=4:=by rw[Int.tmod_eq_emod_of_nonneg h8];exact h6'
 have h10:κ.tdiv 6=(q:Int):=by rw[Int.tdiv_eq_ediv_of_nonneg h8];exact h7
 go_enter func20,ntmps20
 go_wp2_with (go_at_call 57;refine(HP.out _).mono ?_;rintro e w1 ⟨rfl,rfl⟩)
 go_region_with (go_at_call 58;refine(HD.out _ _ (by with_reducible first|exact h11|exact h7|exact h10|rfl)).mono ?_;rintro e w2 ⟨rfl,hbel⟩;have HB:=Hd hbel;(try have hcl:=aC hbel (aS _ C6 9 4));clear hbel)
 all_goals go_wp2
 all_goals go_ret
 all_goals refine⟨rfl,?_⟩
 all_goals first|exact aB (bF (aI bR) nR HB.out) _|exact bF (aI (aB bR _)) (by simp) HB.out
theorem aGb (n κ:Int) (q:Nat) (w:World) (HP:Hid (∀W,Calls prog 57 #[.int .i64 n,.int .i64 60] W fun e w'=>e=.returned (.int .i64 κ)∧W=w')) (h8:0≤κ) (h6':κ % 6=5) (h7:κ / 6=(q:Int)) (hq10:q<10):
 Calls prog 20 #[.int .i64 n] w (Ret (.string (⟨#[101,108,115,101,101]⟩++nH q)) w):=by
 have HD:=Hd (fun(a:Int) (W:World) (h:a=(q:Int))=>pO q hq10 a W h)
 have hz:(nH q).size=1:=rfl
 have h11:IntKind.i64.wrap (q:Int)=(q:Int):=IntWalk.i64_in _ (by omega)
 have h9:κ.tmod 6=5:=by rw[Int.tmod_eq_emod_of_nonneg h8];exact h6'
 have h10:κ.tdiv 6=(q:Int):=by rw[Int.tdiv_eq_ediv_of_nonneg h8];exact h7
 go_enter func20,ntmps20
 go_wp2_with (go_at_call 57;refine(HP.out _).mono ?_;rintro e w1 ⟨rfl,rfl⟩)
 go_region_with (go_at_call 58;refine(HD.out _ _ (by with_reducible first|exact h11|exact h7|exact h10|rfl)).mono ?_;rintro e w2 ⟨rfl,hbel⟩;have HB:=Hd hbel;(try have hcl:=aC hbel (aS _ C6 9 5));clear hbel)
 all_goals go_wp2
 all_goals go_ret
 all_goals refine⟨rfl,?_⟩
 all_goals first|exact aB (bF (aI bR) nR HB.out) _|exact bF (aI (aB bR _)) (by simp) HB.out
theorem lV (K:Nat) (hK:K<60) (n:Int) (hn:I64 n) (hk:dG n 60=(K:Int)) (w:World):Calls prog 20 #[.int .i64 n] w (Ret (.string (aK K)) w):=by
 have HP:=Hd (fun W=>zG n 60 W hn (by decide))
 rw[hk] at HP
 unfold aK
 generalize hr:K % 6=r
 have hr6:r<6:=by omega
 have hm:(K:Int) % 6=(r:Int):=by omega
 have hq:(K:Int) / 6=((K / 6:Nat):Int):=by omega
 rcases r with _|_|_|_|_|_|r
 ·exact aGg n K (K / 6) w HP (by omega) hm hq (by omega)
 ·exact aGf n K (K / 6) w HP (by omega) hm hq (by omega)
 ·exact aGe n K (K / 6) w HP (by omega) hm hq (by omega)
 ·exact aGd n K (K / 6) w HP (by omega) hm hq (by omega)
 ·exact aGc n K (K / 6) w HP (by omega) hm hq (by omega)
 ·exact aGb n K (K / 6) w HP (by omega) hm hq (by omega)
 ·omega
end Go.Proofs.YtlibhkkckgkkkaaGreatDoor.Boo
namespace Go.Proofs.YtlibhkkckgkkkaaGreatDoor.Tf
open Go.RowKit Go.Proofs.YtlibhkkckgkkkaaGreatDoor.Mem Go.Proofs.YtlibhkkckgkkkaaGreatDoor.Boo Go.Proofs.Tryz
def uL (n:Int):Int:=if bits .and .u16 n 32768=0 then IntKind.u16.wrap (n * 2) else bits .xor .u16 (IntKind.u16.wrap (n * 2)) 4129
def jR:Nat→Int→Int
 |0,n=>n
 |k+1,n=>uL (jR k n)
def uM (n:Int) (c:UInt8):Int:=jR 8 (bits .xor .u16 n (IntKind.u16.wrap (IntKind.u16.wrap c.toNat * 256)))
def nA (l:List UInt8):Int:=l.foldl uM 65535
theorem aFz (l:List UInt8) (i:Nat) (h:i<l.length):nA (l.take (i+1))=uM (nA (l.take i)) (l[i]'h):=by
 unfold nA
 rw[List.take_succ_eq_append_getElem h,List.foldl_append]
 rfl
theorem aBk (s:ByteArray) (hs:s.size≤1000000) (w:World):Calls prog 293 #[.string s] w fun e w'=>e=.returned (.int .i64 (wrap64 (nA s.data.toList)))∧w=w':=by
 go_enter func293,ntmps293
 go_wp2_with fail
 go_loopw [3,8] (fun nv iv wr=>∃(i:Nat) (n:Int),i≤s.size∧iv=.int .i64 i∧nv=.int .u16 n∧Hid (n=nA (s.data.toList.take i))∧w=wr) (fun _ iv _=>s.size-(intOf iv).toNat)
 case atStart=>exact⟨0,65535,Nat.zero_le _,rfl,rfl,Hd rfl,rfl⟩
 case round=>
  obtain⟨i,n,him,rfl,rfl,HN,rfl⟩:=hrel
  by_cases hlt:i<s.size
  ·have z1:(i:Int)<(s.size:Int):=by omega
   have hz:wrap64 ((i:Int)+1)=((i+1:Nat):Int):=by rw[Mem.w64 (by omega) (by omega)];omega
   have hil:i<s.data.toList.length:=by rw[Array.length_toList];exact hlt
   have HS:Hid (nA (s.data.toList.take (i+1))=jR 8 (bits .xor .u16 n (IntKind.u16.wrap (IntKind.u16.wrap (s[i]'hlt).toNat * 256)))):=Hd (by
    rw[aFz _ i hil,←HN.out]
    unfold uM
    congr 5)
   have HLT:=Hd hlt
   go_wp2_with fail
   obtain⟨q,hq⟩:∃q,bits .xor .u16 n (IntKind.u16.wrap (IntKind.u16.wrap (s[i]'hlt).toNat * 256))=q:=⟨_,rfl⟩
   rw[hq] at HS
   simp only[hq]
   go_loopw [3,18] (fun nv iv wr=>∃(j:Nat) (p:Int),j≤8∧iv=.int .i64 j∧nv=.int .u16 p∧Hid (p=jR j q)∧w=wr) (fun _ iv _=>8-(intOf iv).toNat)
   case atStart=>exact⟨0,q,Nat.zero_le _,rfl,rfl,Hd rfl,rfl⟩
   case round=>
    obtain⟨j,p,hjm,rfl,rfl,HP,rfl⟩:=hrel
    by_cases hlj:j<8
    ·have z2:(j:Int)<8:=by omega
     have HJ:=Hd hlj
     have hzj:wrap64 ((j:Int)+1)=((j+1:Nat):Int):=by rw[Mem.w64 (by omega) (by omega)];omega
     by_cases hb:bits BinOp.and IntKind.u16 p 32768=0
     ·have HQ:Hid (IntKind.u16.wrap (p * 2)=jR (j+1) q):=Hd (by rw[jR,←HP.out,uL,if_pos hb])
      go_wp2_with fail
      go_roundw
      case rel=>exact⟨j+1,_,HJ.out,(by first|rfl|simp),rfl,HQ,trivial⟩
      case measure=>have:=HJ.out;simp[intOf];omega
     ·have HQ:Hid (bits .xor .u16 (IntKind.u16.wrap (p * 2)) 4129=jR (j+1) q):=Hd (by rw[jR,←HP.out,uL,if_neg hb])
      go_wp2_with fail
      go_roundw
      case rel=>exact⟨j+1,_,HJ.out,(by first|rfl|simp),rfl,HQ,trivial⟩
      case measure=>have:=HJ.out;simp[intOf];omega
    ·obtain rfl:j=8:=by omega
     go_wp2_with fail
     go_roundw
     case rel=>exact⟨i+1,p,HLT.out,(by first|rw[hz]|rfl|simp),rfl,Hd (by rw[HP.out,←HS.out]),trivial⟩
     case measure=>have:=HLT.out;(try rw[hz]);simp[intOf];omega
  ·obtain rfl:i=s.size:=by omega
   have HE:Hid (n=nA s.data.toList):=Hd (by
    rw[HN.out,List.take_of_length_le]
    rw[Array.length_toList]
    exact nR)
   go_wp2_with fail
   go_ret
   exact⟨by rw[HE.out];rfl,rfl⟩
def dC (n:Nat):ByteArray:=⟨#[UInt8.ofNat (n / 256),UInt8.ofNat (n % 256)]⟩
theorem uD (n:Nat) (hn:n≤65535) (w:World):Calls prog 292 #[.int .i64 (n:Int)] w (Ret (.string (dC n)) w):=by
 obtain⟨a,ha⟩:∃a,n / 256=a:=⟨_,rfl⟩
 obtain⟨b,hb⟩:∃b,n % 256=b:=⟨_,rfl⟩
 have e0:(n:Int) / 256=(a:Int):=by omega
 have e1:IntKind.u8.wrap (a:Int)=(a:Int):=IntWalk.u8_in _ ⟨by omega,by omega⟩
 have e2:IntKind.u8.wrap (n:Int)=(b:Int):=by rw[IntKind.wrap_u8];omega
 have z1:¬(n:Int)<0:=by omega
 have z2:¬(n:Int)>65535:=by omega
 obtain⟨R,hR⟩:∃R,dC n=R:=⟨_,rfl⟩
 have hcv:(convert 117 9 (.slice (some ⟨w.heap.size,0,none⟩) 2 2)).run prog (w.alloc (.cells #[.int .u8 (a:Int),.int .u8 (b:Int)] 5))=.ok (.string R) (w.alloc (.cells #[.int .u8 (a:Int),.int .u8 (b:Int)] 5)):=by
  have:=run_convert_bytes_arg (P:=prog) (w.alloc (.cells #[.int .u8 (a:Int),.int .u8 (b:Int)] 5)) 117 5 underlying117 underlying5 w.heap.size 0 2 2 [(a:Int),(b:Int)] rfl (fun i hi=>by
   rcases i with _|_|i
   ·exact aS w #[.int .u8 (a:Int),.int .u8 (b:Int)] 5 0
   ·exact aS w #[.int .u8 (a:Int),.int .u8 (b:Int)] 5 1
   ·omega) 9 underlying9
  rw[this,←hR]
  unfold dC strOfNums
  rw[ha,hb]
  rfl
 rw[hR]
 clear ha hb hn hR
 go_enter func292,ntmps292
 go_wp2_with fail
 go_ret
 exact⟨rfl,blw⟩
end Go.Proofs.YtlibhkkckgkkkaaGreatDoor.Tf
namespace Go.Proofs.YtlibhkkckgkkkaaGreatDoor.Boo
open Go.RowKit Go.Proofs.YtlibhkkckgkkkaaGreatDoor.Mem
def okF (s:ByteArray) (n:Int):Bool:=aZ s&&decide (1≤n∧n≤1000000000000)
theorem aQy (w:World) (s:ByteArray):AtS (w.alloc (.cells #[.string s] 9)) w.heap.size s:=aS w #[.string s] 9 0
end Go.Proofs.YtlibhkkckgkkkaaGreatDoor.Boo
namespace Go.Proofs.YtlibhkkckgkkkaaGreatDoor.Boo
open Go.RowKit Go.Proofs.YtlibhkkckgkkkaaGreatDoor.Mem Go.Proofs.Tryz
theorem aLi (A:Option Addr) (c n:Nat) (xs:List eG) (hn:xs.length=n) (s:ByteArray) (p t:Int) (w:World) (h:dL.At w A c xs) (hb:n * 32≤140737488355328) (hs:s.size≤9223372036854775807) (hk:okP s p t=true) (hbb:gX (soS s) 8 xs=true):
 Calls prog 134 #[.slice A n c,.string s,.int .i64 p,.int .i64 t] w (fun r w'=>∃A c,r=.returned (.tuple #[.slice A (cY (soS s) ⟨s,p,t⟩ 8 xs).length c,.int .i64 0])∧dL.Own 249 w' w.heap.size A c (cY (soS s) ⟨s,p,t⟩ 8 xs)∧Below w.heap.size w w'):=by
 have HN:=Hd (fun W=>eB s W hs)
 unfold okP at hk
 rw[Bool.and_eq_true,decide_eq_true_iff] at hk
 obtain⟨hn1,g0,g1,g2,g3⟩:=hk
 rw[hn1] at HN
 have H:=Hd h
 have HW:=Hd (fun(B:Nat) (W:World) (hS:AtS W B s) (hA:dL.At W A c xs)=>tC A c n 8 xs hn ⟨s,p,t⟩ (soS s) 278 #[.pointer (some ⟨B,0,none⟩)] W aOj hA hb (by decide) (fun x W' hW=>aBt x s B W' (hS.below hW)))
 rw[hbb] at HW
 have hg0:¬(p<1):=by omega
 have hg1:¬(1000000000000<p):=by omega
 have hg2:¬(t<0):=by omega
 have hg3:¬(1099511627776<t):=by omega
 clear h hn hn1 hs hbb
 go_enter func134,ntmps134
 go_wp2_with (first
  |(go_at_call 60;refine(HN.out _).mono ?_;rintro e w1 ⟨rfl,hbel⟩;have HB:=Hd hbel;have HA:=Hd (H.out.below hbel);clear hbel)
  |(go_at_call 218;refine(zM s _).mono ?_;rintro e w2 ⟨B,rfl,hs,hge,hbel⟩;have HS:=Hd hs;have HB2:=Hd (aD HB.out hbel);have HA2:=Hd (HA.out.below hbel);clear hs hge hbel)
  |(go_at_call 220;refine(HW.out B _ HS.out HA2.out).mono ?_;rintro e w3 ⟨A3,c3,rfl,hown,hbel⟩;have HB3:=Hd (aD HB2.out hbel);have HO:=Hd (hown.lower HB2.out.size);clear hown hbel))
 go_ret2
 exact⟨A3,c3,rfl,HO.out,HB3.out⟩
theorem aEh (A:Option Addr) (c m:Nat) (xs:List fA) (hm:xs.length=m) (s:ByteArray) (n:Int) (w:World) (h:dN.At w A c xs) (hb:m * 24≤140737488355328) (hs:s.size≤9223372036854775807) (hk:okF s n=true)
 (hf:fI (soN s) xs=-1∨∃(k:Nat) (x:fA),fI (soN s) xs=k∧xs[k]?=some x∧x.n<n) (hbb:gX (soN s) 8 xs=true):
 Calls prog 66 #[.slice A m c,.string s,.int .i64 n] w (fun r w'=>∃A c,r=.returned (.tuple #[.slice A (cY (soN s) ⟨s,n⟩ 8 xs).length c,.bool true,.int .i64 0])∧dN.Own 239 w' w.heap.size A c (cY (soN s) ⟨s,n⟩ 8 xs)∧Below w.heap.size w w'):=by
 have HN:=Hd (fun W=>eB s W hs)
 unfold okF at hk
 rw[Bool.and_eq_true,decide_eq_true_iff] at hk
 obtain⟨hn1,g0,g1⟩:=hk
 rw[hn1] at HN
 have H:=Hd h
 have hle:m≤c:=by rw[←hm];exact h.le
 have hmax:=h.max
 have HI:=Hd (fun(B:Nat) (W:World) (hS:AtS W B s) (hA:dN.At W A c xs)=>wY A c m xs hm (soN s) 129 #[.pointer (some ⟨B,0,none⟩)] W aOk hA (fun x W' hW=>aB3 x s B W' (hS.below hW)))
 have HW:=Hd (fun(B:Nat) (W:World) (hS:AtS W B s) (hA:dN.At W A c xs)=>aCq A c m 8 xs hm ⟨s,n⟩ (soN s) 129 #[.pointer (some ⟨B,0,none⟩)] W aOk hA hb (by decide) (fun x W' hW=>aB3 x s B W' (hS.below hW)))
 rw[hbb] at HW
 have hg0:¬(n<1):=by omega
 have hg1:¬(1000000000000<n):=by omega
 have HS0:=Hd (aQy w s)
 rcases hf with hf|⟨k,x,hf,hx,hlt⟩
 ·rw[hf] at HI
  clear h hm hn1 hs hbb hf
  go_enter func66,ntmps66
  go_wp2_with (first
   |(go_at_call 60;refine(HN.out _).mono ?_;rintro e w1 ⟨rfl,hbel⟩;have HB:=Hd (aD (aB bR _) hbel);have HA:=Hd ((H.out.below (aB bR _)).below hbel);have HS:=Hd (HS0.out.below hbel);have hc1:=aC hbel HS0.out;clear hbel)
   |(go_at_call 130;refine(HI.out _ _ HS.out HA.out).mono ?_;rintro e w2 ⟨rfl,hbel⟩;have HB2:=Hd (aD HB.out hbel);have HA2:=Hd (HA.out.below hbel);have HS2:=Hd (HS.out.below hbel);have hc2:=aC hbel hc1;clear hbel)
   |(go_at_call 132;refine(HW.out _ _ HS2.out HA2.out).mono ?_;rintro e w3 ⟨A3,c3,rfl,hown,hbel⟩;have HB3:=Hd (aD HB2.out hbel);have HO:=Hd (hown.lower HB2.out.size);clear hown hbel))
  refine bodyPost_ret (v:=.tuple #[.slice A3 (cY (soN s) ⟨s,n⟩ 8 xs).length c3,.bool true,.int .i64 0]) (by simp[results,results66,go_sem]) rfl ⟨A3,c3,rfl,HO.out,HB3.out⟩
 ·rw[hf] at HI
  have hkm:k<m:=by rw[←hm];exact(List.getElem?_eq_some_iff.1 hx).1
  have HX:=Hd hx
  have hnl:¬(n≤x.n):=by omega
  clear h hm hn1 hs hbb hf hx hlt
  go_enter func66,ntmps66
  go_wp2_with (first
   |(go_at_call 60;refine(HN.out _).mono ?_;rintro e w1 ⟨rfl,hbel⟩;have HB:=Hd (aD (aB bR _) hbel);have HA:=Hd ((H.out.below (aB bR _)).below hbel);have HS:=Hd (HS0.out.below hbel);have hc1:=aC hbel HS0.out;clear hbel)
   |(go_at_call 130;refine(HI.out _ _ HS.out HA.out).mono ?_;rintro e w2 ⟨rfl,hbel⟩;have HB2:=Hd (aD HB.out hbel);have HA2:=Hd (HA.out.below hbel);have HS2:=Hd (HS.out.below hbel);have hc2:=aC hbel hc1;obtain⟨b,off,rfl,hbl,c0,c1⟩:=vI HA2.out k _ HX.out;clear hbel)
   |(go_at_call 132;refine(HW.out _ _ HS2.out HA2.out).mono ?_;rintro e w3 ⟨A3,c3,rfl,hown,hbel⟩;have HB3:=Hd (aD HB2.out hbel);have HO:=Hd (hown.lower HB2.out.size);clear hown hbel))
  refine bodyPost_ret (v:=.tuple #[.slice A3 (cY (soN s) ⟨s,n⟩ 8 xs).length c3,.bool true,.int .i64 0]) (by simp[results,results66,go_sem]) rfl ⟨A3,c3,rfl,HO.out,HB3.out⟩
end Go.Proofs.YtlibhkkckgkkkaaGreatDoor.Boo
