/- Part of the proof of TopFeeds: MdlJ MdlK. -/
import Derived.Test.YtlibhkkckgkkkaaGreatDoorZBC
import Derived.Test.YtlibhkkckgkkkaaGreatDoorZBI
set_option maxHeartbeats 4000000
set_option maxRecDepth 100000
namespace Go.Proofs.YtlibhkkckgkkkaaGreatDoor.Tf
open Go.RowKit Go.Proofs.YtlibhkkckgkkkaaGreatDoor.Mem Go.Proofs.YtlibhkkckgkkkaaGreatDoor.Boo Go.Proofs.Tryz
theorem aAp (P:Mp) (M:Mst) (C:Cf) (hc:mB C) (v:World) (G:Gl v) (h:Md P M v):
 Calls prog 25 #[.pointer (some ⟨P.mb,0,none⟩),.agg #[.int .i64 2,.string aX,.string (bl (aM C.x)),.int .i64 C.lo,.int .i64 C.hi,.int .i64 C.co,.int .i64 C.a,.int .i64 C.b]] v fun e w'=>e=.returned (.agg #[.int .i64 0,.int .i64 0])∧Md P {M with C:=some C,wt:=true} w'∧aT P.B v w':=by
 obtain⟨S,h⟩:=h
 obtain⟨w,hw⟩:∃w,w=(v.alloc (.cells (iV 2 aX (bl (aM C.x)) C.lo C.hi C.co C.a C.b) 42)).alloc (.cells #[.int .i64 0,.int .i64 0] 38):=⟨_,rfl⟩
 have HG:Hid (iH v w (iV 2 aX (bl (aM C.x)) C.lo C.hi C.co C.a C.b)):=Hd ⟨hw⟩
 have H:=Hd (h.below HG.out.below)
 have HBv:=Hd h.lt.2.2
 have HPL:Hid (∀W,Below w.heap.size w W→Calls prog 61 #[.pointer (some ⟨P.mb,0,none⟩),.string aX] W (Ret (.int .i64 0) W)):=Hd (fun W hW=>rX P M S W (H.out.below hW))
 have HCH:Hid (∀W,Below w.heap.size w W→Calls prog 62 #[C.v] W (Ret (.int .i64 0) W)):=Hd (fun W hW=>uC C hc W ((G.below HG.out.below).below hW))
 have HAS:Hid (∀W gb,Below w.heap.size w W→W.heap[gb]?=some (.cells C.arr 27 (0,0))→Calls prog 63 #[.pointer (some ⟨P.mb,0,none⟩),.int .i64 0,.int .i64 5] (W.setCell ⟨S.sb,1,none⟩ (.pointer (some ⟨gb,0,none⟩))) fun e w'=>e=.returned (.tuple #[])∧bQ P {M with C:=some C,wt:=true} {S with g:=some ⟨gb,0,none⟩} w'∧aT P.B w w'):=Hd (fun W gb hW hg=>by
  have hm:=H.out.below hW
  refine(aHq P _ _ 5 (by decide) _ (hm.setG hg)).mono ?_
  rintro e w' ⟨rfl,h1,h2⟩
  obtain⟨cur,hk⟩:=hm.kind
  exact⟨rfl,h1,((aT.ofB (Nat.le_trans HBv.out HG.out.below.size) hW).setT hk (by decide) hm.los _ _).trans h2⟩)
 have HO:=Hd (fun W=>rV 0 W)
 have t0:∀j,w.cell? ⟨v.heap.size,j,none⟩=(iV 2 aX (bl (aM C.x)) C.lo C.hi C.co C.a C.b)[j]?:=fun j=>aA HG.out.cmd j
 have HT0:=Hd t0
 obtain⟨lo,hi,co,a,b,x⟩:=C
 unfold Cf.v Cf.arr at *
 dsimp only at *
 generalize bl (aM x)=s at *
 clear h hc G t0
 go_enter func25,ntmps25
 go_wp2_with fail
 rw[←hw]
 clear hw
 refine(HPL.out w blw).mono ?_
 rintro e W1 ⟨rfl,hb⟩
 have HB1:Hid (Below w.heap.size w W1):=Hd hb
 have q0:W1.cell? ⟨v.heap.size,0,none⟩=some (.int .i64 2):=aC hb (HT0.out 0)
 have q2:W1.cell? ⟨v.heap.size,2,none⟩=some (.string s):=aC hb (HT0.out 2)
 have q3:W1.cell? ⟨v.heap.size,3,none⟩=some (.int .i64 lo):=aC hb (HT0.out 3)
 have q4:W1.cell? ⟨v.heap.size,4,none⟩=some (.int .i64 hi):=aC hb (HT0.out 4)
 have q5:W1.cell? ⟨v.heap.size,5,none⟩=some (.int .i64 co):=aC hb (HT0.out 5)
 have q6:W1.cell? ⟨v.heap.size,6,none⟩=some (.int .i64 a):=aC hb (HT0.out 6)
 have q7:W1.cell? ⟨v.heap.size,7,none⟩=some (.int .i64 b):=aC hb (HT0.out 7)
 have hlv:v.heap.size<W1.heap.size:=bL W1 ⟨v.heap.size,0,none⟩ q0
 clear hb HT0
 go_wp2_with fail
 refine(HCH.out _ blw).mono ?_
 rintro e W2 ⟨rfl,hb⟩
 have hgb:W2.heap[W1.heap.size]?=some (.cells #[.int .i64 lo,.int .i64 hi,.int .i64 co,.int .i64 a,.int .i64 b,.string s] 27 (0,0)):=(hb.block _ (by simp)).trans (aN _ _)
 have HGB:=Hd hgb
 have HB2:=bst w hb
 have HM2:=Hd (H.out.below HB2.out)
 obtain⟨sc,NA,nc,OA,oc,HA,hc,MA,mc,⟨_,d1,_⟩,⟨e1,_⟩,⟨_,fs,_,ls⟩,_,sc1,sc2⟩:=HM2.out.cells
 clear hgb hb q0 q2 q3 q4 q5 q6 q7
 go_wp2_with fail
 refine(HAS.out _ _ HB2.out HGB.out).mono ?_
 rintro e W3 ⟨rfl,h3,k3⟩
 have HM3:=Hd h3
 have HK3:=Hd k3
 clear h3 k3 d1 e1 fs ls
 go_wp2_with fail
 refine(HO.out _).mono ?_
 rintro e W4 ⟨rfl,hb⟩
 have HM4:=Hd (HM3.out.below hb)
 have HK4:=Hd (HK3.out.step (Nat.le_trans HBv.out HG.out.below.size) hb)
 obtain⟨r0,r1,rf,rl⟩:=nE HG.out HK4.out
 clear hb
 go_wp2_with fail
 exact bodyPost_ret (v:=.agg #[.int .i64 0,.int .i64 0]) (by simp[results,results25,go_sem, *]) rfl ⟨rfl,nF HM4.out HG.out HBv.out HK4.out _ _⟩
theorem uI {B g:Nat} {w w':World} {name:String} {v:Array Value} (h:w.var? prog name=some v) (hn:prog.globalNamed name=some g) (hg:g<B) (k:Below B w w'):w'.var? prog name=some v:=by
 unfold World.var? at h ⊢
 rw[hn] at h ⊢
 simp only[Option.bind_some] at h ⊢
 rw[k.block g hg]
 exact h
theorem aP2:prog.globalNamed "strconv.ErrSyntax" =some 3:=by kernel_rfl
theorem aP3:prog.globalNamed "strconv.ErrRange" =some 4:=by kernel_rfl
theorem aIg:prog.globalNamed "internal/strconv.uint64pow10" =some 5:=by kernel_rfl
theorem Gl.low {B:Nat} {w w':World} (h:Gl w) (hB:6≤B) (k:Below B w w'):Gl w':=by
 obtain⟨⟨m,hm⟩,ht,⟨a,b,hs⟩,⟨c,d,hr⟩⟩:=h
 exact⟨⟨m,(k.cell (by dsimp only;omega)).trans hm⟩,uI ht aIg (by omega) k,⟨a,b,uI hs aP2 (by omega) k⟩,⟨c,d,uI hr aP3 (by omega) k⟩⟩
theorem Gl.size {w:World} (h:Gl w):6≤w.heap.size:=by
 have ht:=h.tab
 unfold Lib.TabIs World.var? at ht
 rw[aIg] at ht
 simp only[Option.bind_some] at ht
 rcases Nat.lt_or_ge 5 w.heap.size with h|h
 ·exact h
 ·rw[Array.getElem?_eq_none h] at ht;cases ht
theorem aBw (P:Mp) (M:Mst) (S:Sp) (hwt:M.wt=true) (w:World) (h:bQ P M S w):Calls prog 70 #[.pointer (some ⟨P.qb,0,none⟩),.int .i64 0] w fun e w'=>e=.returned (.tuple #[.int .i64 0,.bool true])∧bQ P {M with wt:=false} S w'∧aT P.B w w':=by
 obtain⟨xs,q1,q2⟩:=h.queue
 rw[hwt,if_pos rfl] at q2
 obtain⟨q,rfl⟩:=q2
 refine(aDz P.qb P.hb P.pb P.db P.B q w q1).mono ?_
 rintro e w' ⟨rfl,h1,h2⟩
 exact⟨rfl,h.taken q1 h1 h2,aT.ofQ q1 h2⟩
theorem aGl (P:Mp) (hP:6≤P.B) (M:Mst) (C:Cf) (hC:M.C=some C) (hc:mB C) (hwt:M.wt=true) (ht:eO C (gS M.bk)=(0,false)) (hL:iY (gS M.bk)) (s t:ByteArray) (v:World) (G:Gl v) (h:Md P M v):
 Calls prog 28 #[.pointer (some ⟨P.mb,0,none⟩),.agg #[.int .i64 5,.string s,.string t,.int .i64 0,.int .i64 0,.int .i64 0,.int .i64 0,.int .i64 0]] v fun e w'=>e=.returned (.agg #[.int .i64 0,.int .i64 0])∧Md P {M with wt:=false} w'∧aT P.B v w':=by
 obtain⟨S,h⟩:=h
 obtain⟨u,hw⟩:∃w,w=(v.alloc (.cells (iV 5 s t 0 0 0 0 0) 42)).alloc (.cells #[.int .i64 0,.int .i64 0] 38):=⟨_,rfl⟩
 have HG:Hid (iH v u (iV 5 s t 0 0 0 0 0)):=Hd ⟨hw⟩
 have H:=Hd (h.below HG.out.below)
 have HBv:=Hd h.lt.2.2
 have HBu:Hid (P.B≤u.heap.size):=Hd (Nat.le_trans HBv.out HG.out.below.size)
 have HNX:Hid (∀W,Below u.heap.size u W→Calls prog 70 #[.pointer (some ⟨P.qb,0,none⟩),.int .i64 0] W fun e w'=>e=.returned (.tuple #[.int .i64 0,.bool true])∧bQ P {M with wt:=false} S w'∧aT P.B u w'):=Hd (fun W hW=>by
  refine(aBw P M S hwt W (H.out.below hW)).mono ?_
  rintro e w' ⟨rfl,h1,h2⟩
  exact⟨rfl,h1,(aT.ofB HBu.out hW).trans h2⟩)
 obtain⟨sc,NA,nc,OA,oc,HA,hc',MA,mc,⟨c0,_,_,c3,_⟩,_,_,_,_,_⟩:=H.out.cells
 have HGL:=Hd (G.below HG.out.below)
 have HTF:=Hd ht
 have HL:=Hd hL
 have HCC:=Hd hC
 have HOK:=Hd hc
 have HP6:=Hd hP
 clear h G hL ht hC hc hP
 go_enter func28,ntmps28
 go_upto_region 1 with(fail)
 change Code.wp _ _ _ _ ((v.alloc (.cells (iV 5 s t 0 0 0 0 0) 42)).alloc (.cells #[.int .i64 0,.int .i64 0] 38))
 rw[←hw]
 clear hw
 go_cut [5,6] (fun k b wx=>k=.int .i64 0∧b=.bool true∧Hid (bQ P {M with wt:=false} S wx)∧Hid (aT P.B u wx))
 case first=>
  go_region_with (first
   |(go_at_call 70;go_must (refine(HNX.out _ blw).mono ?_;rintro e w ⟨rfl,h1,k1⟩;have H1:=Hd h1;have K1:=Hd k1;clear h1 k1)))
  all_goals go_wp2_with fail
  all_goals go_meet
  all_goals exact⟨rfl,rfl,H1,K1⟩
 case rest=>
 obtain⟨rfl,rfl,H1,K1⟩:=hcut
 obtain⟨w,hwc⟩:∃w,w=wc:=⟨_,rfl⟩
 subst hwc
 have HGW:Hid (Gl w):=Hd (HGL.out.low HP6.out K1.out.below)
 have HBW:Hid (P.B≤w.heap.size):=Hd (Nat.le_trans HBu.out K1.out.size)
 have hcf:=H1.out.cfg
 rw[show({M with wt:=false}:Mst).C=some C from HCC.out] at hcf
 obtain⟨gb,hg,hgb⟩:=hcf
 have HBK:Hid (dL.At w S.bA S.bc M.bk):=Hd H1.out.bk.at_
 obtain⟨sc',NA',nc',OA',oc',HA',hc2,MA',mc',⟨_,d1,_,_,d4,_⟩,⟨e1,e2,e3,e4,e5,e6⟩,⟨fm,fs,lm,ls⟩,_,sc1,sc2⟩:=H1.out.cells
 rw[hg] at e1
 obtain⟨n,hn⟩:∃n,M.bk.length=n:=⟨_,rfl⟩
 have HLE:Hid (n≤8):=Hd (by have:=HL.out.len;unfold gS at this;rw[List.length_map,hn] at this;exact this)
 have HN:=Hd hn
 have e2':w.cell? ⟨S.sb,2,none⟩=some (.slice S.bA n S.bc):=by rw[←hn];exact e2
 have HOF:Hid (∀W,Below w.heap.size w W→Calls prog 71 #[.slice S.bA n S.bc] W (aKt dF W.heap.size W (gS M.bk) n)):=Hd (fun W hW=>rU S.bA S.bc n M.bk HN.out W (HBK.out.below hW) (by have:=HLE.out;omega))
 have HTA:Hid (∀W A c,Below w.heap.size w W→dF.At W A c (gS M.bk)→Calls prog 12 #[C.v,.slice A n c] W (Ret (.tuple #[.int .i64 0,.bool false]) W)):=Hd (fun W A c hW hA=>by
  have:=mZ C HOK.out (gS M.bk) HL.out A c n (by unfold gS;rw[List.length_map];exact HN.out) W (HGW.out.below hW) hA
  rwa [HTF.out] at this)
 obtain⟨lo,hi,co,a,b,x⟩:=C
 unfold Cf.v Cf.arr at *
 dsimp only at *
 generalize bl (aM x)=cs at *
 have g0:w.cell? ⟨gb,0,none⟩=some (.int .i64 lo):=aA hgb 0
 have g1:w.cell? ⟨gb,1,none⟩=some (.int .i64 hi):=aA hgb 1
 have g2:w.cell? ⟨gb,2,none⟩=some (.int .i64 co):=aA hgb 2
 have g3:w.cell? ⟨gb,3,none⟩=some (.int .i64 a):=aA hgb 3
 have g4:w.cell? ⟨gb,4,none⟩=some (.int .i64 b):=aA hgb 4
 have g5:w.cell? ⟨gb,5,none⟩=some (.string cs):=aA hgb 5
 have lg:=(gLt hgb)
 clear hgb hg hn e2 c0 c3 HNX HCC HTF HOK
 go_upto_region 7 with(fail)
 go_cut [8,9] (fun p b wx=>p=.int .i64 0∧b=.bool false∧Hid (Below w.heap.size w wx))
 case first=>
  go_region_with (first
   |(go_at_call 71;go_must (refine(HOF.out _ blw).mono ?_;rintro e W1 ⟨A1,c1,rfl,ho,hb⟩;have HO1:=Hd ho;have HB1:=bst w hb;(obtain⟨⟨kc1_0_0,kc1_0_1,kc1_0_2,kc1_0_3,kc1_0_4,kc1_0_5⟩,kl1_0⟩:=kn6 hb gb (.int .i64 lo) (.int .i64 hi) (.int .i64 co) (.int .i64 a) (.int .i64 b) (.string cs));have p1:=aC hb (by first|exact e1|(go_simp;done));have hbl2:=hb.size;have hl2:S.sb<W1.heap.size:=bL W1 ⟨S.sb,1,none⟩ p1;clear ho hb))
   |(go_at_call 12;go_must (refine rB w (HTA.out _ _ _ blw (HO1.out.below blw)) ?_;intro W2 HB2)))
  all_goals go_wp2_with fail
  all_goals go_meet
  all_goals exact⟨rfl,rfl,HB2⟩
 case rest=>
 obtain⟨rfl,rfl,HB2⟩:=hcut
 obtain⟨W2,hwc⟩:∃w,w=wc:=⟨_,rfl⟩
 subst hwc
 have HO:=Hd (fun W=>rV 0 W)
 go_wp2_with fail
 refine(HO.out _).mono ?_
 rintro e W4 ⟨rfl,hb⟩
 have HB4:Hid (Below w.heap.size w W4):=Hd (aD (w:=w) HB2.out hb)
 have HM4:=Hd (H1.out.below HB4.out)
 have HK4:=Hd (K1.out.step HBu.out HB4.out)
 obtain⟨r0,r1,rf,rl⟩:=nE HG.out HK4.out
 clear hb
 go_wp2_with fail
 exact bodyPost_ret (v:=.agg #[.int .i64 0,.int .i64 0]) (by simp[results,results28,go_sem, *]) rfl ⟨rfl,nF HM4.out HG.out HBv.out HK4.out _ _⟩
end Go.Proofs.YtlibhkkckgkkkaaGreatDoor.Tf
