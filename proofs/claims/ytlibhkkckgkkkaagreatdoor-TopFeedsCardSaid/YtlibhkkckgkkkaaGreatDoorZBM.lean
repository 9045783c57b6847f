/- Part of the proof of TopFeeds: LwJ LwK. -/
import Derived.Test.YtlibhkkckgkkkaaGreatDoorZAL
import Derived.Test.YtlibhkkckgkkkaaGreatDoorZAX
import Derived.Test.YtlibhkkckgkkkaaGreatDoorZBL
set_option maxHeartbeats 4000000
set_option maxRecDepth 100000
namespace Go.Proofs.YtlibhkkckgkkkaaGreatDoor.Tf
open Go.RowKit Go.Proofs.YtlibhkkckgkkkaaGreatDoor.Mem Go.Proofs.YtlibhkkckgkkkaaGreatDoor.Boo Go.Proofs.Tryz
theorem aQz (a b:List UInt8):bl a++bl b=bl (a++b):=by
 apply ByteArray.ext
 apply Array.ext'
 simp[bl,ByteArray.data_append]
theorem aQ2 (a b:List UInt8) (h:a.length+b.length≤1000000) (W:World):(Op.stringOp .add (bl a) (bl b)).run prog W=.ok (.string (bl (a++b))) W:=by
 rw[←aQz]
 exact run_string_add_sum W (bl a) (bl b) (by rw[eM,eM];omega)
theorem gH {P Q R:ByteArray} {a b:List UInt8} (hP:P=bl a) (hQ:Q=bl b) (hR:R=bl (a++b)) (h:a.length+b.length≤1000000):∀W,(Op.stringOp .add P Q).run prog W=.ok (.string R) W:=by
 subst hP hQ hR
 exact fun W=>aQ2 a b h W
theorem oS (s:ByteArray):s=bl s.data.toList:=rfl
def TxC (w:World) (x:Ex) (u:EV):Prop:=∀W,Below w.heap.size w W→Calls prog 55 #[u.v] W (Ret (.string (bl (aM x))) W)
theorem aLf (n:Nat) (hn:n≤1000000000000) (s:ByteArray) (A:Option Addr) (m c:Nat) (w:World):Calls prog 55 #[.agg #[.int .i64 4,.int .i64 (n:Int),.string s,.slice A m c]] w (Ret (.string (dR n)) w):=by
 have HT:Hid (∀W,Calls prog 11 #[.int .i64 (n:Int)] W (Ret (.string (dR n)) W)):=Hd (fun W=>by rw[iI n hn];exact oZ n hn W)
 have HW:=Hd (fun W=>jE 4 (by decide) W)
 generalize dR (n:Int)=T at HT ⊢
 generalize aY ((4:Nat):Int)=Wd at HW
 clear hn
 go_enter func55,ntmps55
 go_wp2_with (first|(go_at_call 116;go_must (refine rC w (HW.out _) ?_;intro wq1 hb Bq1;obtain⟨⟨kc1_0_0,kc1_0_1,kc1_0_2,kc1_0_3⟩,kl1_0,kf1_0⟩:=kb4 hb (w.heap.size) (.int .i64 4) (.int .i64 (n:Int)) (.string s) (.slice A m c);clear hb))|(go_at_call 11;go_must (refine rB w (HT.out _) ?_;intro wq2 Bq2)))
 go_ret
 exact⟨rfl,blw⟩
theorem aGm (K:Nat) (hK:K=1∨K=2) (n:Int) (s:ByteArray) (A:Option Addr) (m c:Nat) (w:World):Calls prog 55 #[.agg #[.int .i64 (K:Int),.int .i64 n,.string s,.slice A m c]] w (Ret (.string (aY K)) w):=by
 rcases hK with rfl|rfl
 ·have HW:Hid (∀W,Calls prog 116 #[.int .i64 1] W (Ret (.string (aY 1)) W)):=Hd (fun W=>jE 1 (by decide) W)
  show Calls prog 55 #[.agg #[.int .i64 1,.int .i64 n,.string s,.slice A m c]] w (Ret (.string (aY 1)) w)
  generalize aY 1=Wd at HW ⊢
  go_enter func55,ntmps55
  go_wp2_with (go_at_call 116;go_must (refine rC w (HW.out _) ?_;intro wq3 hb Bq3;obtain⟨⟨kc3_0_0,kc3_0_1,kc3_0_2,kc3_0_3⟩,kl3_0,kf3_0⟩:=kb4 hb (w.heap.size) (.int .i64 1) (.int .i64 n) (.string s) (.slice A m c);clear hb))
  go_ret
  exact⟨rfl,blw⟩
 ·have HW:Hid (∀W,Calls prog 116 #[.int .i64 2] W (Ret (.string (aY 2)) W)):=Hd (fun W=>jE 2 (by decide) W)
  show Calls prog 55 #[.agg #[.int .i64 2,.int .i64 n,.string s,.slice A m c]] w (Ret (.string (aY 2)) w)
  generalize aY 2=Wd at HW ⊢
  go_enter func55,ntmps55
  go_wp2_with (go_at_call 116;go_must (refine rC w (HW.out _) ?_;intro wq4 hb Bq4;obtain⟨⟨kc4_0_0,kc4_0_1,kc4_0_2,kc4_0_3⟩,kl4_0,kf4_0⟩:=kb4 hb (w.heap.size) (.int .i64 2) (.int .i64 n) (.string s) (.slice A m c);clear hb))
  go_ret
  exact⟨rfl,blw⟩
theorem yX (K:Nat) (hK:3≤K∧K≤12) (h4:K≠4) (n:Nat) (hn:n≤1000000000000) (s:ByteArray) (A:Option Addr) (c m:Nat) (xs:List Ex) (vs:List EV) (hm:xs.length=m) (hm9:m≤9) (hv:vs.length=m) (w:World) (hat:dX.At w A c vs)
 (hx:∀(i:Nat) (x:Ex) (u:EV),xs[i]?=some x→vs[i]?=some u→TxC w x u) (hcs:(K=3∨K=11→m=0)∧(K=5∨K=6→m≠0)) (hl:((aY K).data.toList++([40]++(cM xs++(cG m (moF K n s)++[41])))).length≤100000):
 Calls prog 55 #[.agg #[.int .i64 (K:Int),.int .i64 (n:Int),.string s,.slice A m c]] w (Ret (.string (bl ((aY K).data.toList++([40]++(cM xs++(cG m (moF K n s)++[41])))))) w):=by
 have HW:=Hd (fun W=>jE K (by omega) W)
 have HT:Hid (∀W,Calls prog 11 #[.int .i64 (n:Int)] W (Ret (.string (dR n)) W)):=Hd (fun W=>by rw[iI n hn];exact oZ n hn W)
 have HN:Hid (∀W,Calls prog 10 #[.int .i64 (n:Int)] W (Ret (.string (bP n)) W)):=Hd (fun W=>by rw[gN];exact pV n (by omega) W)
 have HAT:=Hd hat
 have HX:=Hd hx
 have HM:=Hd hm
 have HV:=Hd hv
 have HM9:=Hd hm9
 have HCS:=Hd hcs
 have y4:((K:Int)==4)=false:=bN (by omega)
 have y1:((K:Int)==1)=false:=bN (by omega)
 have y2:((K:Int)==2)=false:=bN (by omega)
 obtain⟨Wd,hWd⟩:∃Wd,aY K=Wd:=⟨_,rfl⟩
 rw[hWd] at HW hl ⊢
 obtain⟨l1,hl1⟩:∃l1,Wd.data.toList++[40]=l1:=⟨_,rfl⟩
 have e1:Wd.data.toList++([40]++(cM xs++(cG m (moF K n s)++[41])))=(l1++cM xs)++(cG m (moF K n s)++[41]):=by rw[←hl1];simp
 rw[e1] at hl ⊢
 have HL:=Hd hl
 obtain⟨R,hR⟩:∃R,bl ((l1++cM xs)++(cG m (moF K n s)++[41]))=R:=⟨_,rfl⟩
 rw[hR]
 have HR:=Hd hR
 clear hR
 obtain⟨P0,hP0⟩:∃P0,bl l1=P0:=⟨_,rfl⟩
 have HP0:Hid (P0=bl (l1++cM (xs.take 0))):=Hd (by rw[←hP0];simp[cM,iC,cP])
 have a0:∀W,(Op.stringOp .add Wd ⟨#[40]⟩).run prog W=.ok (.string P0) W:=gH (oS Wd) (b:=[40]) rfl (by rw[hl1,hP0]) (by
  have h1:l1.length≤100000:=by simp only[lA] at hl;omega
  rw[←hl1] at h1
  simp only[lA,List.length_cons,List.length_nil] at h1 ⊢
  omega)
 clear hat hx hm hv hm9 hcs hWd hl1 e1 hl hP0 hn h4 hK
 go_enter func55,ntmps55
 go_wp2_with (go_at_call 116;go_must (refine rC w (HW.out _) ?_;intro wq5 hb Bq5;obtain⟨⟨kc5_0_0,kc5_0_1,kc5_0_2,kc5_0_3⟩,kl5_0,kf5_0⟩:=kb4 hb (w.heap.size) (.int .i64 (K:Int)) (.int .i64 (n:Int)) (.string s) (.slice A m c);clear hb))
 go_loopw [3,4] (fun sv iv wr=>∃(i:Nat) (P:ByteArray),i≤m∧iv=.int .i64 i∧sv=.string P∧Hid (P=bl (l1++cM (xs.take i)))∧Hid (Below w.heap.size w wr)∧Hid (wr.cell? ⟨w.heap.size,0,none⟩=some (.int .i64 (K:Int))∧wr.cell? ⟨w.heap.size,1,none⟩=some (.int .i64 (n:Int))∧wr.cell? ⟨w.heap.size,2,none⟩=some (.string s)∧wr.cell? ⟨w.heap.size,3,none⟩=some (.slice A m c))) (fun _ iv _=>m-(intOf iv).toNat)
 case atStart=>exact⟨0,P0,Nat.zero_le _,rfl,rfl,HP0,Hd blw,Hd ⟨by assumption,by assumption,by assumption,by assumption⟩⟩
 case round=>
  obtain⟨i,P,him,rfl,rfl,HP,HB,HC⟩:=hrel
  obtain⟨k0,k1,k2,k3⟩:=HC.out
  have kl:w.heap.size<wr.heap.size:=bL wr ⟨w.heap.size,0,none⟩ k0
  by_cases hlt:i<m
  ·have hxi:xs[i]?=some (xs[i]'(by have:=HM.out;omega)):=gE _
   have hvi:vs[i]?=some (vs[i]'(by have:=HV.out;omega)):=gE _
   have HI:=HX.out i _ _ hxi hvi
   have hst:=kN hxi
   have hln:=oT xs (i+1)
   obtain⟨ba,off,rfl,hbl,c0,c1,c2,c3⟩:=eY (HAT.out.below HB.out) i _ hvi
   generalize vs[i]'(by have:=HV.out;omega)=u at HI c0 c1 c2 c3 hvi
   generalize xs[i]'(by have:=HM.out;omega)=y at HI hxi hst
   obtain⟨uk,un,us,uA,um,uc⟩:=u
   dsimp only at c0 c1 c2 c3
   obtain⟨T,hT⟩:∃T,bl (aM y)=T:=⟨_,rfl⟩
   have HI2:Hid (∀W,Below w.heap.size w W→Calls prog 55 #[.agg #[.int .i64 uk,.int .i64 un,.string us,.slice uA um uc]] W (Ret (.string T) W)):=Hd (by rw[←hT];exact HI)
   have HZI:Hid (wrap64 ((i:Int)+1)=((i+1:Nat):Int)):=Hd (by rw[Mem.w64 (by omega) (by have:=HM9.out;omega)];omega)
   have zlt:(i:Int)<(m:Int):=by omega
   have HLT:=Hd hlt
   obtain⟨P3,hP3⟩:∃P3,bl (l1++cM (xs.take (i+1)))=P3:=⟨_,rfl⟩
   have hlen:(l1++cM (xs.take (i+1))).length≤100000:=by
    have:=HL.out
    simp only[lA] at this ⊢
    omega
   have HP3:=Hd hP3.symm
   by_cases hi0:i=0
   ·subst hi0
    have b0:∀W,(Op.stringOp .add P T).run prog W=.ok (.string P3) W:=gH HP.out hT.symm (by rw[←hP3,hst];simp) (by rw[hst] at hlen;simp only[if_true,List.nil_append,lA] at hlen ⊢;omega)
    simp only[Nat.zero_mul,Nat.add_zero] at c0 c1 c2 c3
    clear hxi hvi hst hln hlt hP3 hlen hT HI
    go_wp2_with (go_at_call 55;go_must (refine rC w (HI2.out _ blw) ?_;intro W hb HB2;(obtain⟨⟨kc6_0_0,kc6_0_1,kc6_0_2,kc6_0_3⟩,kl6_0⟩:=kn4 hb (w.heap.size) (.int .i64 (K:Int)) (.int .i64 (n:Int)) (.string s) (.slice (some ⟨ba,off,none⟩) m c));clear hb))
    go_roundw
    case rel=>exact⟨0+1,P3,HLT.out,(by first|rw[HZI.out]|rfl|simp),rfl,HP3,HB2,Hd ⟨by assumption,by assumption,by assumption,by assumption⟩⟩
    case measure=>have:=HLT.out;(try rw[HZI.out]);simp[intOf];omega
   ·obtain⟨P2,hP2⟩:∃P2,bl ((l1++cM (xs.take i))++[44,32])=P2:=⟨_,rfl⟩
    have b0:∀W,(Op.stringOp .add P ⟨#[44,32]⟩).run prog W=.ok (.string P2) W:=gH HP.out (b:=[44,32]) rfl hP2.symm (by rw[hst,if_neg hi0] at hlen;simp only[lA,List.length_cons,List.length_nil] at hlen ⊢;omega)
    have b1:∀W,(Op.stringOp .add P2 T).run prog W=.ok (.string P3) W:=gH hP2.symm hT.symm (by rw[←hP3,hst,if_neg hi0];simp) (by rw[hst,if_neg hi0] at hlen;simp only[lA,List.length_cons,List.length_nil] at hlen ⊢;omega)
    have zi:(i:Int)>0:=by omega
    clear hxi hvi hst hln hlt hP3 hlen hT HI hP2
    go_wp2_with (go_at_call 55;go_must (refine rC w (HI2.out _ blw) ?_;intro W hb HB2;(obtain⟨⟨kc7_0_0,kc7_0_1,kc7_0_2,kc7_0_3⟩,kl7_0⟩:=kn4 hb (w.heap.size) (.int .i64 (K:Int)) (.int .i64 (n:Int)) (.string s) (.slice (some ⟨ba,off,none⟩) m c));clear hb))
    go_roundw
    case rel=>exact⟨i+1,P3,HLT.out,(by first|rw[HZI.out]|rfl|simp),rfl,HP3,HB2,Hd ⟨by assumption,by assumption,by assumption,by assumption⟩⟩
    case measure=>have:=HLT.out;(try rw[HZI.out]);simp[intOf];omega
  ·obtain rfl:i=m:=by omega
   have HPE:Hid (P=bl (l1++cM xs)):=Hd (by rw[HP.out,←HM.out,List.take_length])
   generalize l1++cM xs=L at HPE HL HR
   clear hlt
   by_cases h3:K=3
   ·have x3:((K:Int)==3)=true:=by rw[h3];rfl
    have hm0:i=0:=HCS.out.1 (.inl h3)
    have hmo:cG i (moF K n s)=s.data.toList:=by rw[h3,hm0];rfl
    rw[hmo] at HL
    have hR:=HR.out
    rw[hmo] at hR
    have hlen:=HL.out
    simp only[lA,List.length_cons,List.length_nil] at hlen
    obtain⟨S2,hS2⟩:∃S2,bl (L++s.data.toList)=S2:=⟨_,rfl⟩
    have b0:∀W,(Op.stringOp .add P s).run prog W=.ok (.string S2) W:=gH HPE.out (oS s) hS2.symm (by omega)
    have b1:∀W,(Op.stringOp .add S2 ⟨#[41]⟩).run prog W=.ok (.string R) W:=gH hS2.symm (b:=[41]) rfl (by rw[←hR];simp) (by simp only[lA,List.length_cons,List.length_nil];omega)
    clear hlen hR hS2 hmo hm0 h3
    go_wp2_with fail
    go_ret
    exact⟨rfl,HB.out⟩
   have x3:((K:Int)==3)=false:=bN (by omega)
   by_cases h5:K=5
   ·have x5:((K:Int)==5)=true:=by rw[h5];rfl
    have hm0:i≠0:=HCS.out.2 (.inl h5)
    have hmo:cG i (moF K n s)=[44,32]++(dR n).data.toList:=by rw[h5];simp[cG,moF,hm0]
    rw[hmo] at HL
    have hR:=HR.out
    rw[hmo] at hR
    have hlen:=HL.out
    simp only[lA,List.length_cons,List.length_nil] at hlen
    obtain⟨T,hT⟩:∃T,dR (n:Int)=T:=⟨_,rfl⟩
    rw[hT] at HT hlen hR
    obtain⟨S2,hS2⟩:∃S2,bl (L++[44,32])=S2:=⟨_,rfl⟩
    obtain⟨S3,hS3⟩:∃S3,bl (L++[44,32]++T.data.toList)=S3:=⟨_,rfl⟩
    have b0:∀W,(Op.stringOp .add P ⟨#[44,32]⟩).run prog W=.ok (.string S2) W:=gH HPE.out (b:=[44,32]) rfl hS2.symm (by simp only[List.length_cons,List.length_nil];omega)
    have b1:∀W,(Op.stringOp .add S2 T).run prog W=.ok (.string S3) W:=gH hS2.symm (oS T) hS3.symm (by simp only[lA,List.length_cons,List.length_nil];omega)
    have b2:∀W,(Op.stringOp .add S3 ⟨#[41]⟩).run prog W=.ok (.string R) W:=gH hS3.symm (b:=[41]) rfl (by rw[←hR];simp) (by simp only[lA,List.length_cons,List.length_nil];omega)
    clear hlen hR hS2 hS3 hmo hm0 h5 hT
    go_wp2_with (go_at_call 11;go_must (refine rB w (HT.out _) ?_;intro wq8 Bq8))
    go_ret
    exact⟨rfl,blw⟩
   have x5:((K:Int)==5)=false:=bN (by omega)
   by_cases h6:K=6
   ·have x6:((K:Int)==6)=true:=by rw[h6];rfl
    have hm0:i≠0:=HCS.out.2 (.inr h6)
    have hmo:cG i (moF K n s)=[44,32]++(bP n).data.toList:=by rw[h6];simp[cG,moF,hm0]
    rw[hmo] at HL
    have hR:=HR.out
    rw[hmo] at hR
    have hlen:=HL.out
    simp only[lA,List.length_cons,List.length_nil] at hlen
    obtain⟨T,hT⟩:∃T,bP (n:Int)=T:=⟨_,rfl⟩
    rw[hT] at HN hlen hR
    obtain⟨S2,hS2⟩:∃S2,bl (L++[44,32])=S2:=⟨_,rfl⟩
    obtain⟨S3,hS3⟩:∃S3,bl (L++[44,32]++T.data.toList)=S3:=⟨_,rfl⟩
    have b0:∀W,(Op.stringOp .add P ⟨#[44,32]⟩).run prog W=.ok (.string S2) W:=gH HPE.out (b:=[44,32]) rfl hS2.symm (by simp only[List.length_cons,List.length_nil];omega)
    have b1:∀W,(Op.stringOp .add S2 T).run prog W=.ok (.string S3) W:=gH hS2.symm (oS T) hS3.symm (by simp only[lA,List.length_cons,List.length_nil];omega)
    have b2:∀W,(Op.stringOp .add S3 ⟨#[41]⟩).run prog W=.ok (.string R) W:=gH hS3.symm (b:=[41]) rfl (by rw[←hR];simp) (by simp only[lA,List.length_cons,List.length_nil];omega)
    clear hlen hR hS2 hS3 hmo hm0 h6 hT
    go_wp2_with (go_at_call 10;go_must (refine rB w (HN.out _) ?_;intro wq9 Bq9))
    go_ret
    exact⟨rfl,blw⟩
   have x6:((K:Int)==6)=false:=bN (by omega)
   by_cases h11:K=11
   ·have x11:((K:Int)==11)=true:=by rw[h11];rfl
    have hm0:i=0:=HCS.out.1 (.inr h11)
    have hmo:cG i (moF K n s)=(bP n).data.toList:=by rw[h11,hm0];rfl
    rw[hmo] at HL
    have hR:=HR.out
    rw[hmo] at hR
    have hlen:=HL.out
    simp only[lA,List.length_cons,List.length_nil] at hlen
    obtain⟨T,hT⟩:∃T,bP (n:Int)=T:=⟨_,rfl⟩
    rw[hT] at HN hlen hR
    obtain⟨S2,hS2⟩:∃S2,bl (L++T.data.toList)=S2:=⟨_,rfl⟩
    have b0:∀W,(Op.stringOp .add P T).run prog W=.ok (.string S2) W:=gH HPE.out (oS T) hS2.symm (by omega)
    have b1:∀W,(Op.stringOp .add S2 ⟨#[41]⟩).run prog W=.ok (.string R) W:=gH hS2.symm (b:=[41]) rfl (by rw[←hR];simp) (by simp only[lA,List.length_cons,List.length_nil];omega)
    clear hlen hR hS2 hmo hm0 h11 hT
    go_wp2_with (go_at_call 10;go_must (refine rB w (HN.out _) ?_;intro wq10 Bq10))
    go_ret
    exact⟨rfl,blw⟩
   have x11:((K:Int)==11)=false:=bN (by omega)
   have hmo:cG i (moF K n s)=[]:=by
    have:moF K n s=none:=by unfold moF;rw[if_neg (by omega),if_neg (by omega),if_neg (by omega),if_neg (by omega)]
    rw[this];rfl
   rw[hmo] at HL
   have hR:=HR.out
   rw[hmo] at hR
   have hlen:=HL.out
   simp only[lA,List.length_cons,List.length_nil] at hlen
   have b1:∀W,(Op.stringOp .add P ⟨#[41]⟩).run prog W=.ok (.string R) W:=gH HPE.out (b:=[41]) rfl (by rw[←hR];simp) (by simp only[List.length_cons,List.length_nil];omega)
   clear hlen hR hmo h3 h5 h6 h11
   go_wp2_with fail
   go_ret
   exact⟨rfl,HB.out⟩
theorem nU (n:Nat) (h:n≤1000000000000):(dR (n:Int)).size≤24:=by
 rw[←bI]
 rw[iI n h,eE,lA]
 have e:(Lib.decDigits (n / 100)).length≤21:=by
  have:=Lib.itoa_length_le ((n / 100:Nat):Int) (by omega) (by omega)
  rwa [Lib.itoa_nonneg] at this
 simp[jQ]
 omega
theorem wW (n:Nat) (h:n≤1000000000000):(bP (n:Int)).size≤24:=by
 rw[←bI]
 rw[gN,eE]
 have:=Lib.itoa_length_le (n:Int) (by omega) (by omega)
 rw[Lib.itoa_nonneg] at this
 omega
theorem kX (k:Nat) (h:k<60):(aK k).size≤24:=by
 have hn:=fF k h
 unfold aZ at hn
 simp at hn
 omega
theorem gU (k:Int):(aY k).size≤6:=by
 unfold aY
 split
 ·decide
 ·rename_i h
  obtain⟨z,rfl⟩:=Int.eq_ofNat_of_zero_le (by omega:0≤k)
  have H:∀m:Fin 13,(aFl.getD m.val ⟨#[]⟩).size≤6:=by decide
  exact H ⟨z,by omega⟩
theorem aDj {d:Nat} {c:Bool} {x:Ex} (h:Gen d c x):(aM x).length+25≤60 * 4 ^ d:=by
 have hp:∀e,1≤4 ^ e:=fun e=>Nat.pow_pos (by decide)
 induction h with
 |low d=>have:=hp d;have:=gU 1;rw[Nat.pow_succ,nZ 1 _ _ _ (.inl rfl),bI];omega
 |sec d=>have:=hp d;have:=gU 2;rw[Nat.pow_succ,nZ 2 _ _ _ (.inr rfl),bI];omega
 |frm d k h=>have:=hp d;have:=gU 3;have:=kX k h;rw[Nat.pow_succ];simp[aM,eR,iC,kF,cP] at this ⊢;omega
 |fix d n h=>have:=hp d;have:=nU n (by omega);rw[Nat.pow_succ,qO,bI];omega
 |less d n h x hx ih=>have:=hp d;have:=gU 5;have:=nU n (by omega);rw[Nat.pow_succ];simp[aM,eR,iC,kF,cP,gZ] at ih this ⊢;omega
 |cut d n h x hx ih=>have:=hp d;have:=gU 6;have:=wW n (by omega);rw[Nat.pow_succ];simp[aM,eR,iC,kF,cP,gZ] at ih this ⊢;omega
 |two d k h x y hx hy ihx ihy=>have:=hp d;have:=gU k;rw[Nat.pow_succ];rcases h with rfl|rfl|rfl <;> (simp[aM,eR,iC,kF,cP,gZ] at ihx ihy this ⊢;omega)
 |iff d c x y hc hx hy ihc ihx ihy=>have:=hp d;have:=gU 10;rw[Nat.pow_succ];simp[aM,eR,iC,kF,cP,gZ] at ihc ihx ihy this ⊢;omega
 |more d n h=>have:=hp d;have:=gU 11;have:=wW n (by omega);rw[Nat.pow_succ];simp[aM,eR,iC,kF,cP] at this ⊢;omega
 |abv d x y hx hy ihx ihy=>have:=hp d;have:=gU 12;rw[Nat.pow_succ];simp[aM,eR,iC,kF,cP,gZ] at ihx ihy this ⊢;omega
theorem tJ:∀(d:Nat) (c:Bool) (x:Ex),Gen d c x→(aM x).length≤100000→∀(v:EV) (S:Nat→Prop) (w:World),bB S w x v→TxC w x v:=by
 intro d
 induction d with
 |zero=>intro c x h;cases h
 |succ d ih=>
  intro cnd x h hl v S w0 hat0 w hb
  obtain⟨k,n,s,xs⟩:=x
  obtain⟨A,c,vs,rfl,hv,hat,hx⟩:=hat0.parts
  have hnode:=iU h
  have hok:=hnode.ok
  obtain⟨K,rfl,hK⟩:=zJ hok
  have hlo:=hnode.lo
  obtain⟨n,rfl⟩:=Int.eq_ofNat_of_zero_le hlo
  have hargs:=hnode.args
  obtain⟨q,hq,hq3,_⟩:=kM K
  have hm9:xs.length≤9:=by omega
  have hn:n≤1000000000000:=by
   have h2:=hnode.hi
   have h3:aO K≤1000000000000:=by
    unfold aO
    by_cases hh:(K:Int)<1∨13≤(K:Int)
    ·rw[if_pos hh];omega
    ·rw[if_neg hh]
     have H:∀m:Fin 13,aBv.getD m.val 0≤1000000000000:=by decide
     have:=H ⟨K,by omega⟩
     simpa using this
   omega
  unfold EV.v
  by_cases h4:K=4
  ·subst h4
   rw[show aM (.node ((4:Nat):Int) n s xs)=(dR n).data.toList from qO n s xs]
   exact aLf n hn s A _ c w
  by_cases h12:K=1∨K=2
  ·rw[nZ K n s xs (by omega)]
   exact aGm K h12 n s A _ c w
  have hcs:(K=3∨K=11→xs.length=0)∧(K=5∨K=6→xs.length≠0):=by
   refine⟨fun e=>?_,fun e=>?_⟩
   ·rcases e with rfl|rfl
    ·have:cH ((3:Nat):Int)=0:=rfl
     omega
    ·have:cH ((11:Nat):Int)=0:=rfl
     omega
   ·rcases e with rfl|rfl
    ·have:cH ((5:Nat):Int)=1:=rfl
     omega
    ·have:cH ((6:Nat):Int)=1:=rfl
     omega
  have e:=rL K n s xs (by omega) (by omega) (by omega) ⟨fun e=>hcs.1 (by omega),fun e=>hcs.2 (by omega)⟩
  rw[e] at hl ⊢
  refine yX K (by omega) h4 n hn s A c _ xs vs rfl hm9 hv w (hat.below hb) (fun i x u h1 h2=>?_) hcs hl
  have h3:(aM x).length≤100000:=by
   have a1:=kN h1
   have a2:=oT xs (i+1)
   rw[a1] at a2
   simp only[lA] at a2 hl
   omega
  exact ih _ x (hnode.sub i x h1) h3 u S w ((hx i x u h1 h2).onBelow hb)
theorem aDc (x:Ex):∀(v:EV) (S:Nat→Prop) (w:World),bB S w x v→cJ x≤1000000→Calls prog 115 #[v.v] w (Ret (.int .i64 (cJ x)) w):=by
 induction x using aI0 with
 |h k n s xs ih=>
  intro v S w h hz
  obtain⟨A,c,vs,rfl,hv,hat,hx⟩:=h.parts
  obtain⟨m,hm⟩:∃m,xs.length=m:=⟨_,rfl⟩
  have HIH:Hid (∀(i:Nat) (x:Ex) (u:EV),xs[i]?=some x→vs[i]?=some u→∀W,Below w.heap.size w W→Calls prog 115 #[u.v] W (Ret (.int .i64 (cJ x)) W)):=Hd (fun i x u h1 h2 W hb=>by
   refine ih x (List.mem_of_getElem? h1) u S W ((hx i x u h1 h2).onBelow hb) ?_
   have h3:=kW h1
   have h4:=nW xs (i+1)
   rw[cJ] at hz
   omega)
  obtain⟨a,ha⟩:∃a:Nat→Nat,∀i,a i=1+eW (xs.take i):=⟨_,fun _=>rfl⟩
  have HA1:Hid (∀i y,xs[i]?=some y→a (i+1)=a i+cJ y):=Hd (fun i y hy=>by rw[ha,ha,kW hy];omega)
  have HA2:Hid (∀i,a i≤1000000):=Hd (fun i=>by
   have:=nW xs i
   rw[cJ] at hz
   rw[ha]
   omega)
  have HA0:Hid (a 0=1):=Hd (by rw[ha];rfl)
  obtain⟨T,hT⟩:∃T,cJ (.node k n s xs)=T:=⟨_,rfl⟩
  have HAm:Hid (a m=T):=Hd (by rw[ha,←hT,cJ,←hm,List.take_length])
  have HAT:=Hd hat
  have HV:Hid (vs.length=m):=Hd (hv.trans hm)
  have HM:=Hd hm
  have HMX:Hid (m≤c∧c≤9223372036854775807):=Hd ⟨by have:=hat.le;omega,hat.max⟩
  rw[hm,hT]
  unfold EV.v
  clear hv hat hx hm ih h hz ha hT
  go_enter func115,ntmps115
  go_wp2
  go_loopw [3,4] (fun nv iv wr=>∃(i:Nat) (q:Int),i≤m∧iv=.int .i64 i∧nv=.int .i64 q∧Hid (q=(a i:Int))∧Hid (Below w.heap.size w wr)∧wr.cell? ⟨w.heap.size,3,none⟩=some (.slice A m c)) (fun _ iv _=>m-(intOf iv).toNat)
  case atStart=>exact⟨0,1,Nat.zero_le _,rfl,rfl,Hd (by rw[HA0.out];rfl),Hd blw,(by first|assumption|(go_simp;done))⟩
  case round=>
   obtain⟨i,q,him,rfl,rfl,HQ,HB,k3⟩:=hrel
   have kl:w.heap.size<wr.heap.size:=bL wr ⟨w.heap.size,3,none⟩ k3
   by_cases hlt:i<m
   ·have hxi:xs[i]?=some (xs[i]'(by have:=HM.out;omega)):=gE _
    have hvi:vs[i]?=some (vs[i]'(by have:=HV.out;omega)):=gE _
    have HI:=HIH.out i _ _ hxi hvi
    obtain⟨b,off,rfl,hbl,c0,c1,c2,c3⟩:=eY (HAT.out.below HB.out) i _ hvi
    generalize vs[i]'(by have:=HV.out;omega)=u at HI c0 c1 c2 c3 hvi
    generalize xs[i]'(by have:=HM.out;omega)=y at HI hxi
    have ht:=HA1.out i y hxi
    have hle:=HA2.out (i+1)
    obtain⟨uk,un,us,uA,um,uc⟩:=u
    dsimp only at c0 c1 c2 c3
    generalize cJ y=z at HI ht
    have HI2:Hid (∀W,Below w.heap.size w W→Calls prog 115 #[.agg #[.int .i64 uk,.int .i64 un,.string us,.slice uA um uc]] W (Ret (.int .i64 (z:Int)) W)):=Hd HI
    have z1:(i:Int)<(m:Int):=by omega
    have HN:Hid (q+(z:Int)=(a (i+1):Int)):=Hd (by rw[HQ.out,ht];omega)
    have zq:wrap64 (q+(z:Int))=q+(z:Int):=Mem.w64 (by have:=HN.out;omega) (by have:=HN.out;omega)
    have zi:wrap64 ((i:Int)+1)=((i+1:Nat):Int):=by rw[Mem.w64 (by omega) (by have:=HMX.out;omega)];omega
    have HLT:=Hd hlt
    clear HI hxi hvi ht hle hlt
    go_wp2_with (go_at_call 115;go_must (refine rC w (HI2.out _ blw) ?_;intro W hb HB2;have kd3:=bcl hb (w.heap.size) 3 (.slice (some ⟨b,off,none⟩) m c);clear hb))
    go_roundw
    case rel=>exact⟨i+1,q+(z:Int),HLT.out,by rw[zi],by rw[zq],HN,HB2,kd3⟩
    case measure=>have:=HLT.out;(try rw[zi]);simp[intOf];omega
   ·obtain rfl:i=m:=by omega
    have HE:Hid (q=(T:Int)):=Hd (by rw[HQ.out,HAm.out])
    clear hlt
    go_wp2
    go_ret
    exact⟨by rw[HE.out];rfl,HB.out⟩
theorem aGw {c:Bool} {x:Ex} (h:Gen 5 c x):(aM x).length≤100000:=by
 have:=aDj h
 omega
theorem yY {x:Ex} (h:Gen 5 false x) (hl:(aM x).length≤100000) (S:Nat→Prop) (v:EV) (w:World) (hat:bB S w x v):Calls prog 54 #[v.v] w (Ret (.bool (decide ((aM x).length≤2000))) w):=by
 have hz:=vV h
 have HFI:Hid (∀W,Below w.heap.size w W→Calls prog 113 #[v.v,.int .i64 32] W (Ret (.bool true) W)):=Hd (fun W hW=>aDf 5 false x h 32 (by decide) (by decide) v S W (hat.onBelow hW))
 have HSZ:Hid (∀W,Below w.heap.size w W→Calls prog 115 #[v.v] W (Ret (.int .i64 (cJ x)) W)):=Hd (fun W hW=>aDc x v S W (hat.onBelow hW) (by omega))
 have HTX:Hid (∀W,Below w.heap.size w W→Calls prog 55 #[v.v] W (Ret (.string (bl (aM x))) W)):=Hd (tJ 5 false x h hl v S w hat)
 obtain⟨K,hK,hk1,hk2,hkc⟩:=hat.kind h
 have HCO:Hid (∀W,Calls prog 114 #[.int .i64 v.k] W fun e w'=>e=.returned (.bool false)∧W=w'):=Hd (fun W=>by rw[←hkc,hK];exact pB K ⟨hk1,hk2⟩ W)
 have z1:((cJ x:Nat):Int)≤2000:=by omega
 have z2:((bl (aM x)).size:Int)=((aM x).length:Int):=by rw[eM]
 obtain⟨k,n,s,A,m,c'⟩:=v
 unfold EV.v at *
 dsimp only at HCO
 generalize bl (aM x)=T at HTX z2
 generalize cJ x=q at HSZ z1
 generalize (aM x).length=l at z2 ⊢
 clear hat h hz hK hkc hl
 by_cases h2:(l:Int)≤2000
 ·rw[decide_eq_true (by omega:l≤2000)]
  go_enter func54,ntmps54
  go_wp2_with (first
   |(go_at_call 113;go_must (refine rC w (HFI.out _ blw) ?_;intro W1 hb HB1;(obtain⟨⟨kc1_0_0,kc1_0_1,kc1_0_2,kc1_0_3⟩,kl1_0,kf1_0⟩:=kb4 hb (w.heap.size) (.int .i64 k) (.int .i64 n) (.string s) (.slice A m c'));clear hb))
   |(go_at_call 114;go_must (refine(HCO.out _).mono ?_;rintro e wq2 ⟨rfl,rfl⟩))
   |(go_at_call 115;go_must (refine rC w (HSZ.out _ blw) ?_;intro W2 hb HB2;(obtain⟨⟨kc3_0_0,kc3_0_1,kc3_0_2,kc3_0_3⟩,kl3_0,kf3_0⟩:=kb4 hb (w.heap.size) (.int .i64 k) (.int .i64 n) (.string s) (.slice A m c'));clear hb))
   |(go_at_call 55;go_must (refine rB w (HTX.out _ blw) ?_;intro W3 HB3)))
  go_ret
  exact⟨rfl,HB3.out⟩
 ·rw[decide_eq_false (by omega:¬l≤2000)]
  go_enter func54,ntmps54
  go_wp2_with (first
   |(go_at_call 113;go_must (refine rC w (HFI.out _ blw) ?_;intro W1 hb HB1;(obtain⟨⟨kc4_0_0,kc4_0_1,kc4_0_2,kc4_0_3⟩,kl4_0,kf4_0⟩:=kb4 hb (w.heap.size) (.int .i64 k) (.int .i64 n) (.string s) (.slice A m c'));clear hb))
   |(go_at_call 114;go_must (refine(HCO.out _).mono ?_;rintro e wq5 ⟨rfl,rfl⟩))
   |(go_at_call 115;go_must (refine rC w (HSZ.out _ blw) ?_;intro W2 hb HB2;(obtain⟨⟨kc6_0_0,kc6_0_1,kc6_0_2,kc6_0_3⟩,kl6_0,kf6_0⟩:=kb4 hb (w.heap.size) (.int .i64 k) (.int .i64 n) (.string s) (.slice A m c'));clear hb))
   |(go_at_call 55;go_must (refine rB w (HTX.out _ blw) ?_;intro W3 HB3)))
  go_ret
  exact⟨(by show Ending.returned (.bool (decide ((l:Int)≤2000)))=_;rw[decide_eq_false (by omega)]),HB3.out⟩
def kZ (x:Ex):ByteArray:=if(aM x).length≤2000 then bl (aM x) else⟨#[]⟩
def pE (x:Ex):Int:=if(aM x).length≤2000 then 0 else 1
theorem yZ {x:Ex} (h:Gen 5 false x) (hl:(aM x).length≤100000) (S:Nat→Prop) (v:EV) (w:World) (hat:bB S w x v):Calls prog 18 #[v.v] w (Ret (.tuple #[.string (kZ x),.int .i64 (pE x)]) w):=by
 have HR:Hid (∀W,Below w.heap.size w W→Calls prog 54 #[v.v] W (Ret (.bool (decide ((aM x).length≤2000))) W)):=Hd (fun W hW=>yY h hl S v W (hat.onBelow hW))
 have HTX:Hid (∀W,Below w.heap.size w W→Calls prog 55 #[v.v] W (Ret (.string (bl (aM x))) W)):=Hd (tJ 5 false x h hl v S w hat)
 obtain⟨k,n,s,A,m,c'⟩:=v
 unfold kZ pE
 unfold EV.v at *
 clear hat h hl
 by_cases h2:(aM x).length≤2000
 ·rw[decide_eq_true h2] at HR
  rw[if_pos h2,if_pos h2]
  generalize bl (aM x)=T at HTX ⊢
  clear h2
  go_enter func18,ntmps18
  go_wp2_with (first
   |(go_at_call 54;go_must (refine rC w (HR.out _ blw) ?_;intro W1 hb HB1;(obtain⟨⟨kc7_0_0,kc7_0_1,kc7_0_2,kc7_0_3⟩,kl7_0,kf7_0⟩:=kb4 hb (w.heap.size) (.int .i64 k) (.int .i64 n) (.string s) (.slice A m c'));clear hb))
   |(go_at_call 55;go_must (refine rB w (HTX.out _ blw) ?_;intro W3 HB3)))
  exact bodyPost_ret (v:=.tuple #[.string T,.int .i64 0]) (by simp[results,results18,go_sem]) rfl ⟨rfl,HB3.out⟩
 ·rw[decide_eq_false h2] at HR
  rw[if_neg h2,if_neg h2]
  clear h2
  go_enter func18,ntmps18
  go_wp2_with (first
   |(go_at_call 54;go_must (refine rC w (HR.out _ blw) ?_;intro W1 hb HB1;(obtain⟨⟨kc8_0_0,kc8_0_1,kc8_0_2,kc8_0_3⟩,kl8_0,kf8_0⟩:=kb4 hb (w.heap.size) (.int .i64 k) (.int .i64 n) (.string s) (.slice A m c'));clear hb)))
  exact bodyPost_ret (v:=.tuple #[.string ⟨#[]⟩,.int .i64 1]) (by simp[results,results18,go_sem]) rfl ⟨rfl,HB1.out⟩
end Go.Proofs.YtlibhkkckgkkkaaGreatDoor.Tf
