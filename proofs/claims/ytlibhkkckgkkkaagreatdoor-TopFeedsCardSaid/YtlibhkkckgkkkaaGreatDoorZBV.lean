/- Part of the proof of TopFeeds: LwS. -/
import Derived.Test.YtlibhkkckgkkkaaGreatDoorZBO
import Derived.Test.YtlibhkkckgkkkaaGreatDoorZBT
set_option maxHeartbeats 8000000
set_option maxRecDepth 100000
namespace Go.Proofs.YtlibhkkckgkkkaaGreatDoor.Tf
open Go.RowKit Go.Proofs.YtlibhkkckgkkkaaGreatDoor.Mem Go.Proofs.YtlibhkkckgkkkaaGreatDoor.Boo Go.Proofs.Tryz
theorem aMs:(prog.info? 38).map (fun i=>(i.zero,i.size,i.bytes))=some (some (.agg #[.int .i64 0,.int .i64 0]),2,16):=by kernel_rfl
theorem aFj (i:Nat) (h:i≤100):wrap64 ((i:Int)+1)=((i+1:Nat):Int)∧IntKind.i64.wrap ((i:Int)+1)=((i+1:Nat):Int):=by
 refine⟨by rw[Mem.w64 (by omega) (by omega)];omega,?_⟩
 rw[iw64 (by omega) (by omega)]
 omega
theorem wR {i m:Nat} (h:i<m):m-(intOf (.int .i64 ((i+1:Nat):Int))).toNat<m-(intOf (.int .i64 (i:Int))).toNat:=by simp[intOf];omega
theorem kT {a b:ByteArray} (W:World) (h:a.size+b.size≤100000):(Op.stringOp .add a b).run prog W=.ok (.string (a++b)) W:=run_string_add_sum W _ _ (by omega)
theorem aIp (i k p:Nat) (hi:i≤100) (hk:k<60) (hp:p≤3000):(iS (aK k)).size≤12∧(qE (i+1)).size≤21∧(iJ p).size≤24∧(aK k).size≤24∧1≤(aK k).size:=by
 have ho:=uS k hk
 unfold okS at ho
 simp only[Bool.and_eq_true,decide_eq_true_eq] at ho
 refine⟨ho.2,oQ (i+1) (by omega),by rw[nC p (by omega)];exact nU p (by omega),kX k hk,?_⟩
 have:=fF k hk
 unfold aZ at this
 simp at this
 omega
theorem aMn (r0 r1 r2 r3 r4 r5:Int) (hI:I64 r0∧I64 r1∧I64 r2∧I64 r3∧I64 r4∧I64 r5) (EA:Option Addr) (ec en:Nat) (es:List Int) (hen:es.length=en) (RA:Option Addr) (rc n:Nat) (rs:List (Int×Int)) (hn:rs.length=n) (at_:Int) (hat:I64 at_)
 (w:World) (G:Gl w) (heat:dZ.At w EA ec es) (hes:∀x∈es,I64 x) (hrat:dA2.At w RA rc rs) (hrs:∀x∈rs,I64 x.1∧I64 x.2)
 (hawake:∀W,Gl W→Calls prog 4 #[] W (Ret (.bool true) W)):
 Calls prog 3 #[.agg #[.int .i64 r0,.int .i64 r1,.int .i64 r2,.int .i64 r3,.int .i64 r4,.int .i64 r5],.slice EA en ec,.slice RA n rc,.int .i64 at_] w (Ret (.bool true) w):=by
 obtain⟨i0,hi,iz,isz,iby⟩:=info_parts zW
 obtain⟨i1,hi1,iz1,isz1,iby1⟩:=info_parts aMs
 have HG:=Hd G
 have HAW:=Hd hawake
 have HCF:Hid (∀W,Below w.heap.size w W→Calls prog 5 #[.agg #[.int .i64 r0,.int .i64 r1,.int .i64 r2,.int .i64 r3,.int .i64 r4,.int .i64 r5],.slice EA en ec] W (aKu W)):=Hd (fun W hW=>aJs r0 r1 r2 r3 r4 r5 hI EA ec en es hen W (heat.below hW) hes)
 have HOF:Hid (∀W,Below w.heap.size w W→Calls prog 6 #[.slice RA n rc] W (aOt W)):=Hd (fun W hW=>aHl RA rc n rs hn W (hrat.below hW) hrs)
 have HPK:Hid (∀(m:Nat) W,Calls prog 7 #[.int .i64 at_,.int .i64 ((m:Int)+1)] W fun e w'=>e=.returned (.int .i64 (dG at_ ((m:Int)+1)))∧W=w'):=Hd (fun m W=>aDr at_ _ W hat (by omega))
 have HPB:Hid (∀m:Nat,∃k:Nat,dG at_ ((m:Int)+1)=k∧k≤m):=Hd (fun m=>by
  obtain⟨q0,q1⟩:=iP at_ ((m:Int)+1) (by omega)
  obtain⟨k,hk⟩:=Int.eq_ofNat_of_zero_le q0
  exact⟨k,hk,by omega⟩)
 clear hI hen hn hat G heat hes hrat hrs hawake
 go_enter func3,ntmps3
 go_upto_if 30 with(first
  |(go_at_call 4;go_must (refine rC w (HAW.out _ (HG.out.below blw)) ?_;intro wq1 hb Bq1;obtain⟨⟨kc1_0_0,kc1_0_1,kc1_0_2,kc1_0_3,kc1_0_4,kc1_0_5⟩,kl1_0,kf1_0⟩:=kb6 hb (w.heap.size) (.int .i64 r0) (.int .i64 r1) (.int .i64 r2) (.int .i64 r3) (.int .i64 r4) (.int .i64 r5);clear hb))
  |(go_at_call 5;go_must (refine(HCF.out _ blw).mono ?_;rintro e W2 ⟨C,rfl,hok,hb⟩;have HB2:=bst w hb;have HOK:=Hd hok;clear hb hok;obtain⟨lo,hi_,co,ca,cb_,cx⟩:=C;unfold Cf.v;dsimp only))
  |(go_at_call 6;go_must (refine(HOF.out _ blw).mono ?_;rintro e W3 ⟨A,c,L,rfl,hown,hgood,hb⟩;have HB3:=bst w hb;have HCB:Hid (W3.heap[W2.heap.size]?=some (.cells #[.int .i64 lo,.int .i64 hi_,.int .i64 co,.int .i64 ca,.int .i64 cb_,.string (bl (aM cx))] 27 (0,0))):=Hd ((hb.block _ (by simp)).trans (aN W2 _));have HOW:=Hd hown;have HGD:=Hd hgood;have HLC:=Hd (show L.length≤c from hown.at_.le);clear hb hown hgood)))
 go_cut [11] (fun q wx=>∃(A':Option Addr) (c':Nat) (M:List aW) (m:Nat),q=.slice A' m c'∧Hid (M.length=m)∧m≤7∧Hid (iG M)∧Hid (dF.At wx A' c' M)∧Hid (Below w.heap.size w wx)∧Hid (wx.heap[W2.heap.size]?=some (.cells #[.int .i64 lo,.int .i64 hi_,.int .i64 co,.int .i64 ca,.int .i64 cb_,.string (bl (aM cx))] 27 (0,0))))
 case first=>
  by_cases h7:7<L.length
  ·have z7:(L.length:Int)>7:=by omega
   have hs:∀W,(Instr.slice 29 (.slice A L.length c) none (some (.int .i64 7)) none).run prog W=.ok (.slice A 7 c) W:=fun W=>aJm A L.length c 7 (by have:=HLC.out;omega) W
   go_wp2_with fail
   go_meet
   exact⟨A,c,L.take 7,7,rfl,Hd (by simp;omega),nR,Hd (HGD.out.sub (List.take_sublist _ _)),Hd (HOW.out.at_.take 7 (by omega)),HB3,HCB⟩
  ·have z7:¬(L.length:Int)>7:=by omega
   go_wp2_with fail
   go_meet
   exact⟨A,c,L,L.length,rfl,Hd rfl,by omega,HGD,Hd HOW.out.at_,HB3,HCB⟩
 case rest=>
 obtain⟨A1,c1,M,m,rfl,HML,hm7,HGM,HAM,HB4,HC4⟩:=hcut
 obtain⟨W4,hwc⟩:∃w,w=wc:=⟨_,rfl⟩
 subst hwc
 clear HOW HGD HLC HCB HB3
 obtain⟨k,hk,hkm⟩:=HPB.out m
 have HP7:Hid (∀W,Calls prog 7 #[.int .i64 at_,.int .i64 ((m:Int)+1)] W fun e w'=>e=.returned (.int .i64 (k:Int))∧W=w'):=Hd (fun W=>by rw[←hk];exact HPK.out m W)
 have HKM:=Hd hkm
 have HM7:=Hd hm7
 have hw1:wrap64 ((m:Int)+1)=(m:Int)+1:=Mem.w64 (by omega) (by omega)
 obtain⟨A2,hs1,hat2⟩:=aJn HAM.out k (by rw[HML.out];exact hkm)
 rw[HML.out] at hs1
 have hs2:=fun W=>aJm A1 m c1 k (by have:=HAM.out.le;have:=HML.out;omega) W
 have HAT2:=Hd hat2
 clear hk hkm hm7 hat2 HPK HPB
 go_upto_region 7 with(go_at_call 7;go_must (refine(HP7.out _).mono ?_;rintro e wq2 ⟨rfl,rfl⟩))
 go_cut [13] (fun q wx=>∃A' c',q=.slice A' m c'∧Hid (dF.At wx A' c' (M.drop k++M.take k))∧Hid (Below W4.heap.size W4 wx))
 case first=>
  go_region_law (first
   |(refine cO dF _ (by rfl) _ _ _ (by rfl) W4.heap.size 44 i0 _ 24 underlying29 hi iz isz iby rfl none 0 0 [] (by rfl) rfl ?_ A2 (c1-k) (m-k) (M.drop k) (by rfl) ?_ ?_ ?_ ?_ ?_ ?_;(exact En.Own.none_ _ _ _);(rw[List.length_drop,HML.out]);(exact HAT2.out.below blw);(rw[List.length_drop,HML.out];have:=HM7.out;simp;omega);(rw[List.length_drop,HML.out];have:=HM7.out;simp;omega);(first|exact nR|exact(show Below W4.heap.size W4 _ from blw).size);(intro A3 c3 w3 hown hg hat;have HO3:=Hd hown;have HB5:Hid (Below W4.heap.size W4 w3):=Hd (aD (w:=W4) blw (mG hg));clear hown hg hat))
   |(refine cO dF _ (by rfl) _ _ _ (by rfl) W4.heap.size 44 i0 _ 24 underlying29 hi iz isz iby rfl A3 c3 (M.length-k) ([]++M.drop k) (by rfl) (by simp) ?_ A1 c1 k (M.take k) (by rfl) ?_ ?_ ?_ ?_ ?_ ?_;(exact HO3.out.below blw);(rw[List.length_take,HML.out];have:=HKM.out;omega);(exact(HAM.out.take k (by rw[HML.out];exact HKM.out)).below blw);(simp[HML.out];have:=HM7.out;omega);(simp[HML.out];have:=HM7.out;omega);(exact(show Below W4.heap.size W4 _ from blw).size);(intro A5 c5 w5 hown hg hat;have HO5:=Hd hown;have HB6:Hid (Below W4.heap.size W4 w5):=Hd (bV (w:=W4) blw hg (fun r hr=>(HO3.out.row r hr).1));clear hown hg hat)))
  all_goals go_wp2_with fail
  all_goals go_meet
  all_goals exact⟨A5,c5,slc (by simp[HML.out];have:=HKM.out;omega),Hd (by have:=HO5.out.at_;rwa [List.nil_append] at this),HB6⟩
 case rest=>
 obtain⟨A3,c3,rfl,HAT3,HB5'⟩:=hcut
 obtain⟨W5,hwc⟩:∃w,w=wc:=⟨_,rfl⟩
 subst hwc
 have HB5:Hid (Below w.heap.size w W5):=Hd (aD HB4.out HB5'.out)
 obtain⟨W6,hW6⟩:∃W6,W6=W5.alloc (.cells #[.slice A1 m c1,.slice A3 m c3] 29):=⟨_,rfl⟩
 have HB56:Hid (Below W5.heap.size W5 W6):=Hd (by rw[hW6];exact aB bR _)
 have HR6:Hid (W6.heap[W5.heap.size]?=some (.cells #[.slice A1 m c1,.slice A3 m c3] 29 (0,0))):=Hd (by rw[hW6];exact aN W5 _)
 have HB6:Hid (Below w.heap.size w W6):=Hd (aD HB5.out HB56.out)
 have HC6:Hid (W6.heap[W2.heap.size]?=some (.cells #[.int .i64 lo,.int .i64 hi_,.int .i64 co,.int .i64 ca,.int .i64 cb_,.string (bl (aM cx))] 27 (0,0))):=Hd (((aD HB5'.out HB56.out).block _ (gLt HC4.out)).trans HC4.out)
 have HA6:Hid (dF.At W6 A1 c1 M):=Hd (HAM.out.below (aD HB5'.out HB56.out))
 have HROW:Hid (∀wr,Below W6.heap.size W6 wr→∀k2,k2<2→∃Al cl L',wr.cell? ⟨W5.heap.size,k2,none⟩=some (.slice Al m cl)∧M.Perm L'∧dF.At wr Al cl L'):=Hd (fun wr hb k2 hk2=>by
  have hr:=(hb.block _ (gLt HR6.out)).trans HR6.out
  match k2,hk2 with
  |0,_=>exact⟨A1,c1,M,aA hr 0,List.Perm.refl _,HA6.out.below hb⟩
  |1,_=>exact⟨A3,c3,_,aA hr 1,aCu M k,(HAT3.out.below HB56.out).below hb⟩)
 obtain⟨C,hC⟩:∃C:Cf,C=⟨lo,hi_,co,ca,cb_,cx⟩:=⟨_,rfl⟩
 have HOC:Hid (mB C):=Hd (by rw[hC];exact HOK.out)
 obtain⟨T,hT⟩:∃T,(eO C M).1=T:=⟨_,rfl⟩
 have HT:=Hd hT
 have HCFG:Hid (∀(P:Mp) W,Gl W→Md P sV W→Calls prog 9 #[.pointer (some ⟨P.mb,0,none⟩),.agg #[.int .i64 2,.string aX,.string (bl (aM cx)),.int .i64 lo,.int .i64 hi_,.int .i64 co,.int .i64 ca,.int .i64 cb_]] W fun e w'=>e=.returned (.agg #[.int .i64 0,.int .i64 0])∧Md P {sV with C:=some C,wt:=true} w'∧aT P.B W w'):=Hd (fun P W G hm=>by
  have:=aJc P sV C HOC.out W G hm
  rw[hC] at this ⊢
  exact this)
 have HTG:Hid (∀W,Gl W→dF.At W A1 c1 M→Calls prog 12 #[.agg #[.int .i64 lo,.int .i64 hi_,.int .i64 co,.int .i64 ca,.int .i64 cb_,.string (bl (aM cx))],.slice A1 m c1] W (Ret (.tuple #[.int .i64 T,.bool (eO C M).2]) W)):=Hd (fun W G ha=>by
  have:=mZ C HOC.out M HGM.out.ok A1 c1 m HML.out W G ha
  rw[hT,hC] at this
  rw[hC]
  exact this)
 generalize (eO C M).2=tb at HTG
 generalize bl (aM cx)=cs at *
 clear hC hT HOK HC4 HAM HAT3 HB5' HB56 HR6 HB5 HB4 HCF HOF HP7 hs1 hs2 hw1 HAT2
 go_wp2_with fail
 rw[←hW6]
 clear hW6
 go_loopw [14,50] (fun tv kv wr=>∃(k2:Nat) (A:Option Addr) (c:Nat),k2≤2∧kv=.int .i64 k2∧tv=.slice A k2 c∧Hid (dA.Own 38 wr W6.heap.size A c (List.replicate k2 (0,T)))∧Hid (Below W6.heap.size W6 wr)) (fun _ kv _=>2-(intOf kv).toNat)
 case atStart=>exact⟨0,none,0,by omega,rfl,rfl,Hd (En.Own.none_ _ _ _),Hd bR⟩
 case round=>
  obtain⟨k2,TA,tc,hk2,rfl,rfl,HTO,HB⟩:=hrel
  obtain⟨V,hv⟩:∃x,x=wr:=⟨_,rfl⟩
  subst hv
  by_cases hlt:k2<2
  ·obtain⟨Al,cl,L,e0,hp,hat⟩:=HROW.out V HB.out k2 hlt
   have HLT:=Hd hlt
   have HP:=Hd hp
   have HAT:=Hd hat
   have HGL:=Hd (HGM.out.perm hp)
   have HLM:Hid (L.length=m):=Hd (by rw[←hp.length_eq];exact HML.out)
   have HTL:Hid ((eO C L).1=T):=Hd (by rw[←yP hp HGM.out.nd];exact HT.out)
   have HZ2:Hid (wrap64 ((k2:Int)+1)=((k2+1:Nat):Int)):=Hd (aFj k2 (by omega)).1
   have HGV:Hid (Gl V):=Hd ((HG.out.below HB6.out).below HB.out)
   have zlt:(k2:Int)<2:=by omega
   clear hlt hp hat
   go_upto_region 13 with(go_at_call 8;go_must (refine(aJb _).mono ?_;rintro e V1 ⟨P,hPB,rfl,hmb,hq,hlo,hb⟩;have HB1:=bst V hb;have HPB:=Hd hPB;have HMB:=Hd hmb;have HQ:=Hd hq;have HLO:=Hd hlo;clear hPB hmb hq hlo hb))
   go_upto_region 14 with(go_at_call 9;go_must (refine(aJa P _ HMB.out HQ.out HLO.out).mono ?_;rintro e V2 ⟨rfl,hm,hk⟩;have HM2:=Hd hm;have HB2:Hid (Below V.heap.size V V2):=Hd (HB1.out.trans (HPB.out▸hk.below));clear hm hk))
   have hr2:=(HB2.out.block _ (Nat.lt_of_lt_of_le (gLt HC6.out) HB.out.size)).trans ((HB.out.block _ (gLt HC6.out)).trans HC6.out)
   have f0:=aA hr2 0
   have f1:=aA hr2 1
   have f2:=aA hr2 2
   have f3:=aA hr2 3
   have f4:=aA hr2 4
   have f5:=aA hr2 5
   clear hr2
   go_upto_region 15 with(go_at_call 9;go_must (refine(HCFG.out P _ (HGV.out.below HB2.out) HM2.out).mono ?_;rintro e V3 ⟨rfl,hm,hk⟩;have HM3:Hid (Md P (stM C L 0) V3):=Hd hm;have HB3:Hid (Below V.heap.size V V3):=Hd (HB2.out.trans (HPB.out▸hk.below));clear hm hk))
   clear f0 f1 f2 f3 f4 f5
   go_wp2_with fail
   go_loopw [18] (fun iv wq=>∃i:Nat,i≤m∧iv=.int .i64 i∧Hid (Md P (stM C L i) wq)∧Hid (Below V.heap.size V wq)) (fun iv _=>m-(intOf iv).toNat)
   case atStart=>exact⟨0,Nat.zero_le _,rfl,HM3,HB3⟩
   case round=>
    obtain⟨i,him,rfl,HMI,HBI⟩:=hrel
    by_cases hli:i<m
    ·have hx:L[i]?=some (L[i]'(by have:=HLM.out;omega)):=gE _
     obtain⟨b,off,rfl,hbl,y0,y1⟩:=lG HAT.out i _ hx
     generalize L[i]'(by have:=HLM.out;omega)=o at y0 y1 hx
     have HLI:=Hd hli
     have HZI:Hid (wrap64 ((i:Int)+1)=((i+1:Nat):Int)):=Hd (aFj i (by have:=HM7.out;omega)).1
     have HFD:Hid (∀W,Gl W→Md P (stM C L i) W→Calls prog 9 #[.pointer (some ⟨P.mb,0,none⟩),.agg #[.int .i64 3,.string ⟨#[]⟩,.string (oL i o.s o.p.toNat),.int .i64 0,.int .i64 0,.int .i64 0,.int .i64 0,.int .i64 0]] W fun e w'=>e=.returned (.agg #[.int .i64 0,.int .i64 0])∧Md P (stM C L (i+1)) w'∧aT P.B W w'):=Hd (fun W G hm=>aEr P C L HGL.out (by rw[HLM.out];exact HM7.out) i o hx W G hm)
     obtain⟨⟨kk,hkk,hse⟩,p1,p2⟩:=HGL.out.sel o (List.mem_of_getElem? hx)
     obtain⟨os,op⟩:=o
     dsimp only at hse p1 p2 y0 y1
     obtain⟨p,rfl⟩:=Int.eq_ofNat_of_zero_le (by omega:0≤op)
     have hfl:=aIp i kk p (by have:=HM7.out;omega) hkk (by omega)
     rw[←hse] at hfl
     obtain⟨l1,l2,l3,l4,l5⟩:=hfl
     have HN10:Hid (∀W,Calls prog 10 #[.int .i64 ((i+1:Nat):Int)] W (Ret (.string (qE (i+1))) W)):=Hd (fun W=>pV (i+1) (by have:=HM7.out;omega) W)
     have HN11:Hid (∀W,Calls prog 11 #[.int .i64 (p:Int)] W (Ret (.string (iJ p)) W)):=Hd (fun W=>oZ p (by omega) W)
     have hft:oL i os p=⟨#[115,114,99]⟩++os.extract 0 1++⟨#[32]⟩++qE (i+1)++⟨#[32,109,117,103,32]⟩++os++⟨#[32]⟩++iJ p:=rfl
     change (ByteArray.mk #[115,114,99]++os.extract 0 1).size≤12 at l1
     dsimp only[Int.toNat_natCast] at HFD
     rw[hft] at HFD
     have e1:(ByteArray.mk #[32]).size=1:=rfl
     have e5:(ByteArray.mk #[32,109,117,103,32]).size=5:=rfl
     generalize qE (i+1)=nb at *
     generalize iJ p=pb at *
     have HS1:Hid (os.size≤24∧1≤os.size):=Hd ⟨l4,l5⟩
     obtain⟨q1,hq1⟩:∃q,⟨#[115,114,99]⟩++os.extract 0 1=q:=⟨_,rfl⟩
     rw[hq1] at HFD l1
     obtain⟨q2,hq2⟩:∃q,q1++⟨#[32]⟩=q:=⟨_,rfl⟩
     obtain⟨q3,hq3⟩:∃q,q2++nb=q:=⟨_,rfl⟩
     obtain⟨q4,hq4⟩:∃q,q3++⟨#[32,109,117,103,32]⟩=q:=⟨_,rfl⟩
     obtain⟨q5,hq5⟩:∃q,q4++os=q:=⟨_,rfl⟩
     obtain⟨q6,hq6⟩:∃q,q5++⟨#[32]⟩=q:=⟨_,rfl⟩
     obtain⟨q7,hq7⟩:∃q,q6++pb=q:=⟨_,rfl⟩
     rw[hq2,hq3,hq4,hq5,hq6,hq7] at HFD
     have g2:q2.size≤13:=by rw[←hq2,ByteArray.size_append];omega
     have g3:q3.size≤34:=by rw[←hq3,ByteArray.size_append];omega
     have g4:q4.size≤39:=by rw[←hq4,ByteArray.size_append];omega
     have g5:q5.size≤63:=by rw[←hq5,ByteArray.size_append];omega
     have g6:q6.size≤64:=by rw[←hq6,ByteArray.size_append];omega
     have a1:∀W,(Op.stringOp .add ⟨#[115,114,99]⟩ (os.extract 0 1)).run prog W=.ok (.string q1) W:=fun W=>by rw[←hq1];exact kT W (by rw[ByteArray.size_extract];have:(ByteArray.mk #[115,114,99]).size=3:=rfl;omega)
     have a2:∀W,(Op.stringOp .add q1 ⟨#[32]⟩).run prog W=.ok (.string q2) W:=fun W=>by rw[←hq2];exact kT W (by omega)
     have a3:∀W,(Op.stringOp .add q2 nb).run prog W=.ok (.string q3) W:=fun W=>by rw[←hq3];exact kT W (by omega)
     have a4:∀W,(Op.stringOp .add q3 ⟨#[32,109,117,103,32]⟩).run prog W=.ok (.string q4) W:=fun W=>by rw[←hq4];exact kT W (by omega)
     have a5:∀W,(Op.stringOp .add q4 os).run prog W=.ok (.string q5) W:=fun W=>by rw[←hq5];exact kT W (by omega)
     have a6:∀W,(Op.stringOp .add q5 ⟨#[32]⟩).run prog W=.ok (.string q6) W:=fun W=>by rw[←hq6];exact kT W (by omega)
     have a7:∀W,(Op.stringOp .add q6 pb).run prog W=.ok (.string q7) W:=fun W=>by rw[←hq7];exact kT W (by omega)
     have hsl:∀W,(Instr.slice 9 (.string os) none (some (.int .i64 1)) none).run prog W=.ok (.string (os.extract 0 1)) W:=fun W=>by
      rw[run_slice_string_h (P:=prog) W 9 os (by kernel_rfl) .i64 1 (by omega) (by omega)]
      rfl
     have zm1:min (1:Int) (os.size:Int)=1:=by omega
     have zi:(i:Int)<(m:Int):=by omega
     have zl1:(1:Int)≤(os.size:Int):=by omega
     obtain⟨hz1,hz2⟩:=aFj i (by have:=HM7.out;omega)
     have b0:=aC HBI.out y0
     have b1:=aC HBI.out y1
     have HBL:Hid (b<V.heap.size):=Hd hbl
     clear hx hli hbl hkk hse p1 p2 l1 l2 l3 l4 l5 hft e1 e5 hq1 hq2 hq3 hq4 hq5 hq6 hq7 g2 g3 g4 g5 g6
     go_upto_region 18 with(fail)
     go_cut [19] (fun q wx=>∃ab,q=.pointer (some ⟨ab,0,none⟩)∧Hid (wx.heap[ab]?=some (.cells #[.int .i64 0,.int .i64 0] 38 (0,0)))∧Hid (Md P (stM C L (i+1)) wx)∧Hid (Below V.heap.size V wx))
     case first=>
      as_aux_lemma=>
       go_region_held3 (fun W'=>W'.cell? ⟨b,off+i * 2,none⟩=some (.string os)∧W'.cell? ⟨b,off+i * 2+1,none⟩=some (.int .i64 (p:Int))) (first|go_keep|(exact⟨fD s0 (Nat.ne_of_lt (Nat.lt_of_lt_of_le HBL.out HAB.out)) _ _,fD s1 (Nat.ne_of_lt (Nat.lt_of_lt_of_le HBL.out HAB.out)) _ _⟩)) (first
        |(go_at_call 10;go_must (refine rC wr (HN10.out _) ?_;intro Wa hb HBa;have s0:=aC HBa.out b0;have s1:=aC HBa.out b1;(first|(have HRa:Hid (Wa.heap[wr.heap.size]?=some (.cells #[.int .i64 0,.int .i64 0] 38 (0,0))):=Hd ((hb.block _ (by simp;done)).trans (aN _ _));have HAB:Hid (V.heap.size≤wr.heap.size):=Hd HBI.out.size)|skip);clear hb))
        |(go_at_call 11;go_must (refine rC wr (HN11.out _) ?_;intro Wb hb HBb;have s0:=aC HBb.out b0;have s1:=aC HBb.out b1;(first|(have HRb:Hid (Wb.heap[wr.heap.size]?=some (.cells #[.int .i64 0,.int .i64 0] 38 (0,0))):=Hd ((hb.block _ (gLt HRa.out)).trans HRa.out))|(have HRb:Hid (Wb.heap[Wa.heap.size]?=some (.cells #[.int .i64 0,.int .i64 0] 38 (0,0))):=Hd ((hb.block _ (by simp;done)).trans (aN _ _));have HAB:Hid (V.heap.size≤Wa.heap.size):=Hd (Nat.le_trans HBI.out.size HBa.out.size))|skip);clear hb))
        |(go_at_call 9;go_must (refine(HFD.out _ (HGV.out.below (HBI.out.trans (aP (show Below wr.heap.size wr _ from blw) HBI.out.size))) (HMI.out.below (show Below wr.heap.size wr _ from blw))).mono ?_;rintro e Wc ⟨rfl,hm,hk⟩;have HMc:=Hd hm;have HVc:Hid (Below V.heap.size V Wc):=Hd ((HBI.out.trans (aP (show Below wr.heap.size wr _ from blw) HBI.out.size)).trans (HPB.out▸hk.below));have s0:=aC HVc.out y0;have s1:=aC HVc.out y1;(first|(have HRc:=Hd (hk.other _ _ _ _ (by decide) HRb.out))|(have HRc:=Hd (hk.other _ _ _ _ (by decide) (aN Wb (.cells #[.int .i64 0,.int .i64 0] 38)));have HAB:Hid (V.heap.size≤Wb.heap.size):=Hd (Nat.le_trans HBI.out.size HBb.out.size))|skip);(first|(have v0:=aA HRc.out 0;have v1:=aA HRc.out 1;have vf:=fun o=>fH HRc.out o;have vl:=(gLt HRc.out))|skip);clear hm hk)))
       all_goals go_wp2_with fail
       all_goals go_meet
       all_goals first
        |exact⟨_,rfl,Hd (zO HMc.out HVc.out HRc.out rfl HAB.out _ _).2.2,Hd (zO HMc.out HVc.out HRc.out rfl HAB.out _ _).1,Hd (zO HMc.out HVc.out HRc.out rfl HAB.out _ _).2.1⟩
        |exact⟨Wc.heap.size,rfl,Hd (aN _ _),Hd (HMc.out.below (aB bR _)),Hd (aB HVc.out _)⟩
     case rest=>
     obtain⟨ab,rfl,HRX,HMX,HVX⟩:=hcut
     obtain⟨X,hwc⟩:∃w,w=wc:=⟨_,rfl⟩
     subst hwc
     have x0:=aA HRX.out 0
     clear hz1 hz2
     go_wp2_with fail
     go_roundw
     case rel=>exact⟨i+1,HLI.out,(by first|rw[HZI.out]|rfl|simp),HMX,HVX⟩
     case measure=>(try rw[HZI.out]);exact wR HLI.out
    ·have zni:¬(i:Int)<(m:Int):=by omega
     have HMm:Hid (Md P (stM C L L.length) wr):=Hd (by rw[HLM.out,←(show i=m by omega)];exact HMI.out)
     have HRU:Hid (∀W,Gl W→Md P (stM C L L.length) W→Calls prog 9 #[.pointer (some ⟨P.mb,0,none⟩),.agg #[.int .i64 5,.string ⟨#[]⟩,.string ⟨#[]⟩,.int .i64 0,.int .i64 0,.int .i64 0,.int .i64 0,.int .i64 0]] W fun e w'=>e=.returned (.agg #[.int .i64 0,.int .i64 T])∧Below P.B W w'):=Hd (fun W G hm=>by
      have:=aGk P (by rw[HPB.out];exact HGV.out.size) C HOC.out L HGL.out W G hm
      rw[HTL.out] at this
      exact this)
     have H63:Hid ((List.replicate k2 ((0:Int),T)).length+1≤9223372036854775807):=Hd (by rw[List.length_replicate];have:=HLT.out;omega)
     have HBYT:Hid (((List.replicate k2 ((0:Int),T)).length+1) * 16≤140737488355328):=Hd (by rw[List.length_replicate];have:=HLT.out;omega)
     go_wp2_with (first
      |(go_at_call 9;go_must (refine(HRU.out _ (HGV.out.below HBI.out) HMm.out).mono ?_;rintro e V5 ⟨rfl,hb⟩;have HB5:Hid (Below V.heap.size V V5):=Hd (HBI.out.trans (HPB.out▸hb));clear hb))
      |(at_builtin;refine aV dA _ rfl _ _ 32 rfl W6.heap.size 38 i1 _ 16 underlying32 hi1 iz1 isz1 iby1 rfl TA tc _ (List.replicate k2 (0,T)) rfl (List.length_replicate ..).symm ?_ _ 1 1 [(0,T)] rfl rfl ?_ ?_ ?_ ?_ ?_;(exact(HTO.out.below HB5.out).below (aB bR _));(exact eU dA V5 38 _ ((0:Int),T) rfl);(exact H63.out);(exact HBYT.out);(exact Nat.le_trans HB.out.size (Nat.le_trans HB5.out.size (by simp)));(intro A5 c5 w5 hown hg hat;have HO5:Hid (dA.Own 38 w5 W6.heap.size A5 c5 (List.replicate (k2+1) (0,T))):=Hd (by rw[List.replicate_succ'];exact hown);have HB7:Hid (Below W6.heap.size W6 w5):=Hd (bV (w:=W6) (aB (aD HB.out HB5.out) _) hg (fun r hr=>(HTO.out.row r (by rw[List.length_replicate] at hr ⊢;exact hr)).1));clear hown hg hat)))
     go_roundw
     case rel=>exact⟨k2+1,A5,c5,HLT.out,(by first|rw[HZ2.out]|rfl|simp),(by simp),HO5,HB7⟩
     case measure=>(try rw[HZ2.out]);exact wR HLT.out
  ·obtain rfl:k2=2:=by omega
   have HGV:Hid (Gl V):=Hd ((HG.out.below HB6.out).below HB.out)
   have hr2:=(HB.out.block _ (gLt HC6.out)).trans HC6.out
   have f0:=aA hr2 0
   have f1:=aA hr2 1
   have f2:=aA hr2 2
   have f3:=aA hr2 3
   have f4:=aA hr2 4
   have f5:=aA hr2 5
   obtain⟨g,o,hTA,hgl,hg0⟩:=HTO.out.at_.get 0 (0,T) rfl
   obtain⟨g',o',hTA',_,hg1⟩:=HTO.out.at_.get 1 (0,T) rfl
   rw[hTA] at hTA'
   injection hTA' with hTA'
   injection hTA' with e1 e2
   subst e1 e2
   subst hTA
   have k0:V.cell? ⟨g,o,none⟩=some (.int .i64 0):=hg0 0 (by decide)
   have k1:V.cell? ⟨g,o+1,none⟩=some (.int .i64 T):=hg0 1 (by decide)
   have k2:V.cell? ⟨g,o+2,none⟩=some (.int .i64 0):=hg1 0 (by decide)
   have k3:V.cell? ⟨g,o+3,none⟩=some (.int .i64 T):=hg1 1 (by decide)
   clear hr2 hg0 hg1 hlt
   go_upto_region 24 with(go_at_call 12;go_must (refine(HTG.out _ HGV.out (HA6.out.below HB.out)).mono ?_;rintro e V7 ⟨rfl,hb⟩;have HB7:Hid (Below V.heap.size V V7):=Hd hb;have m0:=aC hb k0;have m1:=aC hb k1;have m2:=aC hb k2;have m3:=aC hb k3;clear hb))
   have j0:=cell_regrown m0
   have j1:=cell_regrown m1
   have j2:=cell_regrown m2
   have j3:=cell_regrown m3
   have heq:=fun W=>aRn W 0 T
   clear k0 k1 k2 k3 m0 m1 m2 m3 f0 f1 f2 f3 f4 f5
   refine wp_region_quiet_below (by kernel_rfl) (by kernel_rfl) ?_
   repeat(go_big_quiet_step (fail))
   refine wpQuiet_nil ?_
   intro _ hw'
   obtain⟨⟨dq,osq⟩,hw''⟩:=hw'
   subst hw''
   go_wp2_with fail
   exact bodyPost_ret (v:=.bool true) (by simp[results,results3,go_sem]) rfl ⟨rfl,aD (aD HB6.out HB.out) (aD HB7.out (below_regrown V7 dq osq))⟩
end Go.Proofs.YtlibhkkckgkkkaaGreatDoor.Tf
