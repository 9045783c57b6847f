/- Part of the proof of TopFeeds: LwG. -/
import Derived.Test.YtlibhkkckgkkkaaGreatDoorZAG
import Derived.Lib.ItoaLen
set_option maxHeartbeats 1000000
set_option maxRecDepth 100000
namespace Go.Proofs.YtlibhkkckgkkkaaGreatDoor.Tf
open Go.RowKit Go.Proofs.YtlibhkkckgkkkaaGreatDoor.Mem Go.Proofs.YtlibhkkckgkkkaaGreatDoor.Boo Go.Proofs.Tryz
theorem aNt (n:Nat) (h:10≤n):(⟨(Lib.decDigits n).toArray⟩:ByteArray)=⟨(Lib.decDigits (n / 10)).toArray⟩++⟨#[UInt8.ofNat (48+n % 10)]⟩:=by
 rw[Lib.decDigits,dif_neg (by omega)]
 apply ByteArray.ext
 simp[ByteArray.data_append]
theorem oQ (n:Nat) (hn:n≤1000000000000000):(⟨(Lib.decDigits n).toArray⟩:ByteArray).size≤21:=by
 have:=Lib.itoa_length_le (n:Int) (by omega) (by omega)
 rw[Lib.itoa_nonneg] at this
 show(Lib.decDigits n).toArray.size≤21
 simpa using this
theorem sL (n:Nat) (hn:n≤1000000000000000) (w:World):Calls prog 35 #[.int .i64 (n:Int)] w (Ret (.string ⟨(Lib.decDigits n).toArray⟩) w):=by
 induction n using Nat.strongRecOn generalizing w with
 |ind n ih=>
  obtain⟨d,hd⟩:∃d,n % 10=d:=⟨_,rfl⟩
  have hd10:d<10:=by omega
  obtain⟨u,hu⟩:∃u,UInt8.ofNat (48+d)=u:=⟨_,rfl⟩
  have e1:(n:Int).tmod 10=(d:Int):=by rw[Int.tmod_eq_emod_of_nonneg (by omega)];omega
  have e2:wrap64 (48+(d:Int))=48+(d:Int):=Mem.w64 (by omega) (by omega)
  have e3:IntKind.u8.wrap (48+(d:Int))=48+(d:Int):=IntWalk.u8_in _ ⟨by omega,by omega⟩
  have hcv:(convert 117 9 (.slice (some ⟨w.heap.size,0,none⟩) 1 1)).run prog (w.alloc (.cells #[.int .u8 (48+(d:Int))] 5))=.ok (.string ⟨#[u]⟩) (w.alloc (.cells #[.int .u8 (48+(d:Int))] 5)):=by
   have:=run_convert_bytes_arg (P:=prog) (w.alloc (.cells #[.int .u8 (48+(d:Int))] 5)) 117 5 underlying117 underlying5 w.heap.size 0 1 1 [48+(d:Int)] rfl (fun i hi=>by obtain rfl:i=0:=(by omega);exact aS w #[.int .u8 (48+(d:Int))] 5 0) 9 underlying9
   rw[this,←hu]
   congr 2
  by_cases h10:(n:Int)≥10
  ·have HIH:=Hd (fun W=>ih (n / 10) (by omega) (by omega) W)
   have e4:wrap64 ((n:Int) / 10)=((n / 10:Nat):Int):=by rw[Mem.w64 (by omega) (by omega)];omega
   have HE:Hid ((⟨(Lib.decDigits n).toArray⟩:ByteArray)=⟨(Lib.decDigits (n / 10)).toArray⟩++⟨#[u]⟩):=Hd (by rw[aNt n (by omega),hd,hu])
   have hs:=oQ (n / 10) (by omega)
   generalize (⟨(Lib.decDigits n).toArray⟩:ByteArray)=R at HE ⊢
   generalize (⟨(Lib.decDigits (n / 10)).toArray⟩:ByteArray)=T at HE HIH hs
   generalize n / 10=q at HIH e4
   have hadd:∀W,(Op.stringOp .add T ⟨#[u]⟩).run prog W=.ok (.string (T++⟨#[u]⟩)) W:=fun W=>run_string_add_sum W T ⟨#[u]⟩ (by have:(ByteArray.mk #[u]).size=1:=rfl;omega)
   clear ih hd hn hu hs
   go_enter func35,ntmps35
   go_wp2_with (go_at_call 35;go_must (refine rB w (HIH.out _) ?_;intro wq1 Bq1))
   go_ret
   exact⟨by rw[HE.out];rfl,blw⟩
  ·have HE:Hid ((⟨(Lib.decDigits n).toArray⟩:ByteArray)=⟨#[u]⟩):=Hd (by rw[Lib.decDigits,dif_pos (by omega),←hu,←hd,Nat.mod_eq_of_lt (by omega)])
   generalize (⟨(Lib.decDigits n).toArray⟩:ByteArray)=R at HE ⊢
   clear ih hd hn hu
   go_enter func35,ntmps35
   go_wp2
   go_ret
   exact⟨by rw[HE.out];rfl,blw⟩
theorem sK (n:Nat) (hn:n<10):(⟨(Lib.decDigits n).toArray⟩:ByteArray)=⟨#[UInt8.ofNat (48+n)]⟩:=by rw[Lib.decDigits,dif_pos hn]
theorem pV (n:Nat) (hn:n≤1000000000000000) (w:World):Calls prog 10 #[.int .i64 (n:Int)] w (Ret (.string ⟨(Lib.decDigits n).toArray⟩) w):=by
 have HD:=Hd (fun W=>sL n hn W)
 have h0:(0:Int)≤(n:Int):=by omega
 generalize (⟨(Lib.decDigits n).toArray⟩:ByteArray)=R at HD ⊢
 clear hn
 go_enter func10,ntmps10
 go_wp2_with (go_at_call 35;go_must (refine rB w (HD.out _) ?_;intro wq2 Bq2))
 go_ret
 exact⟨rfl,blw⟩
theorem aIk (l:List UInt8) (a b c:UInt8):(⟨(l++[a,b,c]).toArray⟩:ByteArray)=⟨l.toArray⟩++⟨#[a]⟩++⟨#[b]⟩++⟨#[c]⟩:=by
 apply ByteArray.ext
 apply Array.ext'
 simp[ByteArray.data_append]
theorem oZ (n:Nat) (hn:n≤1000000000000) (w:World):Calls prog 11 #[.int .i64 (n:Int)] w (Ret (.string ⟨(Lib.decDigits (n / 100)++[46,UInt8.ofNat (48+n % 100 / 10),UInt8.ofNat (48+n % 100 % 10)]).toArray⟩) w):=by
 obtain⟨D,hD⟩:∃D:Nat→ByteArray,∀x,D x=⟨(Lib.decDigits x).toArray⟩:=⟨_,fun _=>rfl⟩
 have HD:Hid (∀(x:Nat) W,x≤1000000000000000→Calls prog 35 #[.int .i64 (x:Int)] W (Ret (.string (D x)) W)):=Hd (fun x W hx=>by rw[hD];exact sL x hx W)
 have hR:(⟨(Lib.decDigits (n / 100)++[46,UInt8.ofNat (48+n % 100 / 10),UInt8.ofNat (48+n % 100 % 10)]).toArray⟩:ByteArray)=D (n / 100)++⟨#[46]⟩++D (n % 100 / 10)++D (n % 100 % 10):=by
  rw[aIk,hD,hD,hD,sK (n % 100 / 10) (by omega),sK (n % 100 % 10) (by omega)]
 rw[hR]
 have hs:∀x,x≤1000000000000000→(D x).size≤21:=fun x hx=>by rw[hD];exact oQ x hx
 have s0:=hs (n / 100) (by omega)
 have s1:=hs (n % 100 / 10) (by omega)
 have s2:=hs (n % 100 % 10) (by omega)
 have e0:(n:Int) / 100=((n / 100:Nat):Int):=by omega
 have e1:(n:Int) / 10=((n / 10:Nat):Int):=by omega
 have e2:((n / 10:Nat):Int).tmod 10=((n % 100 / 10:Nat):Int):=by rw[Int.tmod_eq_emod_of_nonneg (by omega)];omega
 have e3:(n:Int).tmod 10=((n % 100 % 10:Nat):Int):=by rw[Int.tmod_eq_emod_of_nonneg (by omega)];omega
 have z1:¬(n:Int) < -1000000000000:=by omega
 have z2:¬(n:Int)>1000000000000:=by omega
 have z3:¬(n:Int)<0:=by omega
 have HQ:Hid (n / 100≤1000000000000000∧n % 100 / 10≤1000000000000000∧n % 100 % 10≤1000000000000000):=Hd ⟨by omega,by omega,by omega⟩
 clear hR hD hs
 generalize n % 100 / 10=p at *
 generalize n % 100 % 10=q at *
 generalize n / 100=r at *
 generalize n / 10=t at *
 have t1:(ByteArray.mk #[46]).size=1:=rfl
 have a0:∀W,(Op.stringOp .add (D r) ⟨#[46]⟩).run prog W=.ok (.string (D r++⟨#[46]⟩)) W:=fun W=>run_string_add_sum W _ _ (by omega)
 have a1:∀W,(Op.stringOp .add (D r++⟨#[46]⟩) (D p)).run prog W=.ok (.string (D r++⟨#[46]⟩++D p)) W:=fun W=>run_string_add_sum W _ _ (by rw[ByteArray.size_append];omega)
 have a2:∀W,(Op.stringOp .add (D r++⟨#[46]⟩++D p) (D q)).run prog W=.ok (.string (D r++⟨#[46]⟩++D p++D q)) W:=fun W=>run_string_add_sum W _ _ (by rw[ByteArray.size_append,ByteArray.size_append];omega)
 clear s0 s1 s2 t1 hn
 go_enter func11,ntmps11
 go_wp2_with (go_at_call 35;go_must (refine rB w (HD.out _ _ (by first|exact HQ.out.1|exact HQ.out.2.1|exact HQ.out.2.2)) ?_;intro W HBx))
 go_ret
 exact⟨rfl,blw⟩
end Go.Proofs.YtlibhkkckgkkkaaGreatDoor.Tf
