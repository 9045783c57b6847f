/- Part of the proof of TopFeeds: MdlL. -/
import Derived.Test.YtlibhkkckgkkkaaGreatDoorZBJ
set_option maxHeartbeats 4000000
set_option maxRecDepth 100000
namespace Go.Proofs.YtlibhkkckgkkkaaGreatDoor.Tf
open Go.RowKit Go.Proofs.YtlibhkkckgkkkaaGreatDoor.Mem Go.Proofs.YtlibhkkckgkkkaaGreatDoor.Boo Go.Proofs.Tryz
theorem aFv {C:Cf} (h:mB C) {L:List aW} {T:Int} (ht:eO C L=(T,true)):max C.lo C.co≤T∧T≤C.hi:=by
 have h1:=h.hi
 have h2:=h.co2
 unfold eO at ht
 dsimp only at ht
 split at ht
 ·injection ht with e _
  subst e
  unfold MoneyA.gF
  generalize (uN _ _ _).1=r
  (repeat' split) <;> omega
 ·injection ht with _ e
  cases e
theorem box4 {W:World} {q:Nat} {t:TypeId} {a b c d:Value} (h:W.heap[q]?=some (.cells #[a,b,c,d] t (0,0))) (u0 u1 u2 u3:Value):
 ((((W.setCell ⟨q,0,none⟩ u0).setCell ⟨q,1,none⟩ u1).setCell ⟨q,2,none⟩ u2).setCell ⟨q,3,none⟩ u3).heap[q]?=some (.cells #[u0,u1,u2,u3] t (0,0)):=
 aE _ q 3 _ t u3 (aE _ q 2 _ t u2 (aE _ q 1 _ t u1 (aE W q 0 _ t u0 h)))
theorem aT.set4 {B q:Nat} {w W:World} {t:TypeId} {cur:Array Value} (h:aT B w W) (hq:W.heap[q]?=some (.cells cur t (0,0))) (ht:t∉akL) (hB:B≤q) (u0 u1 u2 u3:Value):aT B w ((((W.setCell ⟨q,3,none⟩ u0).setCell ⟨q,4,none⟩ u1).setCell ⟨q,5,none⟩ u2).setCell ⟨q,6,none⟩ u3):=
 have a1:=aE W q 3 _ t u0 hq
 have a2:=aE _ q 4 _ t u1 a1
 have a3:=aE _ q 5 _ t u2 a2
 (((h.setT hq ht hB 3 u0).setT a1 ht hB 4 u1).setT a2 ht hB 5 u2).setT a3 ht hB 6 u3
theorem lI {W:World} {q b i:Nat} {x:Value} (h:W.cell? ⟨b,i,none⟩=some x) (hn:b≠q) (u0 u1 u2 u3:Value):((((W.setCell ⟨q,0,none⟩ u0).setCell ⟨q,1,none⟩ u1).setCell ⟨q,2,none⟩ u2).setCell ⟨q,3,none⟩ u3).cell? ⟨b,i,none⟩=some x:=by
 have k:∀(W:World) (j:Nat) (u:Value),(W.setCell ⟨q,j,none⟩ u).cell? ⟨b,i,none⟩=W.cell? ⟨b,i,none⟩:=fun W j u=>by
  simp only[World.cell?]
  rw[aG W ⟨q,j,none⟩ u b hn]
 rw[k,k,k,k]
 exact h
theorem aQ0 {w W:World} {q:Nat} (h:Below w.heap.size w W) (hq:w.heap.size≤q) (u0 u1 u2 u3:Value):Below w.heap.size w ((((W.setCell ⟨q,0,none⟩ u0).setCell ⟨q,1,none⟩ u1).setCell ⟨q,2,none⟩ u2).setCell ⟨q,3,none⟩ u3):=
 aF (aF (aF (aF h (p:=⟨q,0,none⟩) hq _) (p:=⟨q,1,none⟩) hq _) (p:=⟨q,2,none⟩) hq _) (p:=⟨q,3,none⟩) hq _
theorem aGj (P:Mp) (hP:6≤P.B) (M:Mst) (C:Cf) (hC:M.C=some C) (hc:mB C) (hwt:M.wt=true) (hfr:M.fr=true) (ox:Out.bH) (hou:M.ou=[ox]) (hx0:0≤ox.v) (hx1:ox.v≤1000000) (T:Int) (ht:eO C (gS M.bk)=(T,true)) (hL:iY (gS M.bk)) (s t:ByteArray) (v:World) (G:Gl v) (h:Md P M v):
 Calls prog 28 #[.pointer (some ⟨P.mb,0,none⟩),.agg #[.int .i64 5,.string s,.string t,.int .i64 0,.int .i64 0,.int .i64 0,.int .i64 0,.int .i64 0]] v fun e w'=>e=.returned (.agg #[.int .i64 0,.int .i64 T])∧Md P {M with ou:=[Out.jV ox T 0],fr:=false,wt:=false} w'∧aT P.B v w':=by
 have hTb:=aFv hc ht
 have HTT:=Hd hTb
 have HT4:Hid (1≤T∧T≤4000):=Hd (by have:=hc.lo;have:=hc.top;omega)
 clear hTb
 obtain⟨S,h⟩:=h
 obtain⟨u,hw⟩:∃w,w=(v.alloc (.cells (iV 5 s t 0 0 0 0 0) 42)).alloc (.cells #[.int .i64 0,.int .i64 0] 38):=⟨_,rfl⟩
 have HG:Hid (iH v u (iV 5 s t 0 0 0 0 0)):=Hd ⟨hw⟩
 have H:=Hd (h.below HG.out.below)
 have HBv:=Hd h.lt.2.2
 have HBu:Hid (P.B≤u.heap.size):=Hd (Nat.le_trans HBv.out HG.out.below.size)
 have HNX:Hid (∀W,Below u.heap.size u W→Calls prog 70 #[.pointer (some ⟨P.qb,0,none⟩),.int .i64 0] W fun e w'=>e=.returned (.tuple #[.int .i64 0,.bool true])∧bQ P {M with wt:=false} S w'∧aT P.B u w'):=Hd (fun W hW=>by
  refine(aBw P M S hwt W (H.out.below hW)).mono ?_
  rintro e w' ⟨rfl,h1,h2⟩
  exact⟨rfl,h1,(aT.ofB HBu.out hW).trans h2⟩)
 obtain⟨sc,NA,nc,OA,oc,HA,hc',MA,mc,⟨c0,_,_,c3,_⟩,_,_,_,_,_⟩:=H.out.cells
 have HGL:=Hd (G.below HG.out.below)
 have HTF:=Hd ht
 have HL:=Hd hL
 have HCC:=Hd hC
 have HOK:=Hd hc
 have HP6:=Hd hP
 clear h G hL ht hC hc hP
 go_enter func28,ntmps28
 go_upto_region 1 with(fail)
 change Code.wp _ _ _ _ ((v.alloc (.cells (iV 5 s t 0 0 0 0 0) 42)).alloc (.cells #[.int .i64 0,.int .i64 0] 38))
 rw[←hw]
 clear hw
 go_cut [5,6] (fun k b wx=>k=.int .i64 0∧b=.bool true∧Hid (bQ P {M with wt:=false} S wx)∧Hid (aT P.B u wx))
 case first=>
  go_region_with (first
   |(go_at_call 70;go_must (refine(HNX.out _ blw).mono ?_;rintro e w ⟨rfl,h1,k1⟩;have H1:=Hd h1;have K1:=Hd k1;clear h1 k1)))
  all_goals go_wp2_with fail
  all_goals go_meet
  all_goals exact⟨rfl,rfl,H1,K1⟩
 case rest=>
 obtain⟨rfl,rfl,H1,K1⟩:=hcut
 obtain⟨w,hwc⟩:∃w,w=wc:=⟨_,rfl⟩
 subst hwc
 have HGW:Hid (Gl w):=Hd (HGL.out.low HP6.out K1.out.below)
 have HBW:Hid (P.B≤w.heap.size):=Hd (Nat.le_trans HBu.out K1.out.size)
 have hcf:=H1.out.cfg
 rw[show({M with wt:=false}:Mst).C=some C from HCC.out] at hcf
 obtain⟨gb,hg,hgb⟩:=hcf
 have HBK:Hid (dL.At w S.bA S.bc M.bk):=Hd H1.out.bk.at_
 obtain⟨sc',NA',nc',OA',oc',HA',hc2,MA',mc',⟨_,d1,_,_,d4,_⟩,⟨e1,e2,e3,e4,e5,e6⟩,⟨fm,fs,lm,ls⟩,_,sc1,sc2⟩:=H1.out.cells
 rw[hg] at e1
 obtain⟨n,hn⟩:∃n,M.bk.length=n:=⟨_,rfl⟩
 have HLE:Hid (n≤8):=Hd (by have:=HL.out.len;unfold gS at this;rw[List.length_map,hn] at this;exact this)
 have HN:=Hd hn
 have e2':w.cell? ⟨S.sb,2,none⟩=some (.slice S.bA n S.bc):=by rw[←hn];exact e2
 have HOF:Hid (∀W,Below w.heap.size w W→Calls prog 71 #[.slice S.bA n S.bc] W (aKt dF W.heap.size W (gS M.bk) n)):=Hd (fun W hW=>rU S.bA S.bc n M.bk HN.out W (HBK.out.below hW) (by have:=HLE.out;omega))
 have HTA:Hid (∀W A c,Below w.heap.size w W→dF.At W A c (gS M.bk)→Calls prog 12 #[C.v,.slice A n c] W (Ret (.tuple #[.int .i64 T,.bool true]) W)):=Hd (fun W A c hW hA=>by
  have:=mZ C HOK.out (gS M.bk) HL.out A c n (by unfold gS;rw[List.length_map];exact HN.out) W (HGW.out.below hW) hA
  rwa [HTF.out] at this)
 have hfr1:=H1.out.fr hfr
 obtain⟨f1,f2,f3,f4,f5,f6⟩:=hfr1
 rw[f1] at e3
 rw[f2] at e4
 rw[f3,f4,f5] at e5
 rw[f6] at e6
 rw[show({M with wt:=false}:Mst).ou=[ox] from hou] at d4
 have d0:=H1.out.cells
 obtain⟨_,_,_,_,_,_,_,_,_,⟨d0,_⟩,_⟩:=d0
 have HDE:Hid (∀W,Below w.heap.size w W→Calls prog 72 #[C.v,.agg #[.int .i64 0,.int .i64 0,.slice none 0 0,.int .i64 0],.int .i64 T,.int .i64 0] W fun e w'=>∃A c,e=.returned (.tuple #[.agg #[.int .i64 T,.int .i64 0,.slice A 1 c,.int .i64 0],.bool true])∧Below W.heap.size W w'):=Hd (fun W hW=>aE5 C HOK.out T HTT.out.1 HTT.out.2 W (HGW.out.below hW))
 clear f1 f2 f3 f4 f5 f6
 obtain⟨lo,hi,co,a,b,x⟩:=C
 unfold Cf.v Cf.arr at *
 dsimp only at *
 generalize bl (aM x)=cs at *
 have g0:w.cell? ⟨gb,0,none⟩=some (.int .i64 lo):=aA hgb 0
 have g1:w.cell? ⟨gb,1,none⟩=some (.int .i64 hi):=aA hgb 1
 have g2:w.cell? ⟨gb,2,none⟩=some (.int .i64 co):=aA hgb 2
 have g3:w.cell? ⟨gb,3,none⟩=some (.int .i64 a):=aA hgb 3
 have g4:w.cell? ⟨gb,4,none⟩=some (.int .i64 b):=aA hgb 4
 have g5:w.cell? ⟨gb,5,none⟩=some (.string cs):=aA hgb 5
 have lg:=(gLt hgb)
 clear hgb hg hn e2 c0 c3 HNX HCC HTF HOK
 go_upto_region 7 with(fail)
 go_cut [8,9] (fun p b wx=>p=.int .i64 T∧b=.bool true∧Hid (Below w.heap.size w wx))
 case first=>
  go_region_with (first
   |(go_at_call 71;go_must (refine(HOF.out _ blw).mono ?_;rintro e W1 ⟨A1,c1,rfl,ho,hb⟩;have HO1:=Hd ho;have HB1:=bst w hb;(obtain⟨⟨kc1_0_0,kc1_0_1,kc1_0_2,kc1_0_3,kc1_0_4,kc1_0_5⟩,kl1_0⟩:=kn6 hb gb (.int .i64 lo) (.int .i64 hi) (.int .i64 co) (.int .i64 a) (.int .i64 b) (.string cs));have p1:=aC hb (by first|exact e1|(go_simp;done));have hbl2:=hb.size;have hl2:S.sb<W1.heap.size:=bL W1 ⟨S.sb,1,none⟩ p1;clear ho hb))
   |(go_at_call 12;go_must (refine rB w (HTA.out _ _ _ blw (HO1.out.below blw)) ?_;intro W2 HB2)))
  all_goals go_wp2_with fail
  all_goals go_meet
  all_goals exact⟨rfl,rfl,HB2⟩
 case rest=>
 obtain⟨rfl,rfl,HB2⟩:=hcut
 obtain⟨W2,hwc⟩:∃w,w=wc:=⟨_,rfl⟩
 subst hwc
 have a0:=aC HB2.out g0
 have a1:=aC HB2.out g1
 have a2:=aC HB2.out g2
 have a3:=aC HB2.out g3
 have a4:=aC HB2.out g4
 have a5:=aC HB2.out g5
 have b1:=aC HB2.out e1
 have b3:=aC HB2.out e3
 have b4:=aC HB2.out e4
 have b5:=aC HB2.out e5
 have b6:=aC HB2.out e6
 have i0:=aC HB2.out d0
 have k1:P.mb<W2.heap.size:=bL W2 ⟨P.mb,0,none⟩ i0
 have k2:S.sb<W2.heap.size:=bL W2 ⟨S.sb,1,none⟩ b1
 have k3:gb<W2.heap.size:=bL W2 ⟨gb,0,none⟩ a0
 have k4:=HB2.out.size
 have n1:gb≠W2.heap.size:=by omega
 have n2:S.sb≠W2.heap.size:=by omega
 have n3:P.mb≠W2.heap.size:=by omega
 go_upto_region 10 with(fail)
 go_cut [10,11] (fun q b wx=>∃pb A c,q=.pointer (some ⟨pb,0,none⟩)∧b=.bool true∧w.heap.size≤pb∧Hid (wx.heap[pb]?=some (.cells #[.int .i64 T,.int .i64 0,.slice A 1 c,.int .i64 0] 141 (0,0)))∧Hid (Below w.heap.size w wx))
 case first=>
  go_region_held3 (fun W'=>W'.cell? ⟨gb,0,none⟩=some (.int .i64 lo)∧W'.cell? ⟨gb,1,none⟩=some (.int .i64 hi)∧W'.cell? ⟨gb,2,none⟩=some (.int .i64 co)∧W'.cell? ⟨gb,3,none⟩=some (.int .i64 a)∧W'.cell? ⟨gb,4,none⟩=some (.int .i64 b)∧W'.cell? ⟨gb,5,none⟩=some (.string cs)∧W'.cell? ⟨S.sb,1,none⟩=some (.pointer (some ⟨gb,0,none⟩))∧W'.cell? ⟨S.sb,3,none⟩=some (.int .i64 0)∧W'.cell? ⟨S.sb,4,none⟩=some (.int .i64 0)∧W'.cell? ⟨S.sb,5,none⟩=some (.slice none 0 0)∧W'.cell? ⟨S.sb,6,none⟩=some (.int .i64 0)∧W'.cell? ⟨P.mb,0,none⟩=some (.int .i64 0)) (first|go_keep|(with_reducible exact⟨lI s0 n1 _ _ _ _,lI s1 n1 _ _ _ _,lI s2 n1 _ _ _ _,lI s3 n1 _ _ _ _,lI s4 n1 _ _ _ _,lI s5 n1 _ _ _ _,lI s6 n2 _ _ _ _,lI s7 n2 _ _ _ _,lI s8 n2 _ _ _ _,lI s9 n2 _ _ _ _,lI s10 n2 _ _ _ _,lI s11 n3 _ _ _ _⟩)) (first
   |(go_at_call 72;go_must (refine(HDE.out _ blw).mono ?_;rintro e W3 ⟨A3,c3,rfl,hb⟩;have HB3:=bst w hb;have s0:=aC HB3.out g0;have s1:=aC HB3.out g1;have s2:=aC HB3.out g2;have s3:=aC HB3.out g3;have s4:=aC HB3.out g4;have s5:=aC HB3.out g5;have s6:=aC HB3.out e1;have s7:=aC HB3.out e3;have s8:=aC HB3.out e4;have s9:=aC HB3.out e5;have s10:=aC HB3.out e6;have s11:=aC HB3.out d0;first|(have hr:W3.heap[W2.heap.size]?=some (.cells #[.int .i64 0,.int .i64 0,.slice none 0 0,.int .i64 0] 141 (0,0)):=(hb.block _ (by first|(simp;done)|(simp;omega))).trans (aN _ _);have v0:=aA hr 0;have v1:=aA hr 1;have v2:=aA hr 2;have v3:=aA hr 3;have vf:∀o,W3.frozen? ⟨W2.heap.size,o,none⟩=false:=fun o=>fH hr o;have vl:=(gLt hr);have HR:=Hd hr;clear hr hb)|clear hb)))
  all_goals go_wp2_with fail
  all_goals go_meet
  all_goals first
   |(have hR:=HR.out;exact⟨_,A3,c3,rfl,rfl,by omega,Hd (box4 hR _ _ _ _),Hd (aQ0 HB3.out (by omega) _ _ _ _)⟩)
   |exact⟨_,A3,c3,rfl,rfl,by have:=HB3.out.size;omega,Hd (aN _ _),Hd (aB HB3.out _)⟩
 case rest=>
 obtain⟨pb,A3,c3,rfl,rfl,hpb,HR,HB3⟩:=hcut
 obtain⟨W3,hwc⟩:∃w,w=wc:=⟨_,rfl⟩
 subst hwc
 have p0:=aA HR.out 0
 have p1:=aA HR.out 1
 have p2:=aA HR.out 2
 have p3:=aA HR.out 3
 have pl:=(gLt HR.out)
 have HM3:=Hd (H1.out.below HB3.out)
 obtain⟨cur,hcur⟩:=HM3.out.kind
 have HKD:=Hd hcur
 obtain⟨sc3,NA3,nc3,OA3,oc3,HA3,hc3,MA3,mc3,⟨x0,x1,x2,x3,x4,x5,x6⟩,⟨y1,y2,y3,y4,y5,y6⟩,⟨zm,zs,lzm,lzs⟩,_,_,_⟩:=HM3.out.cells
 clear hcur a0 a1 a2 a3 a4 a5 b1 b3 b4 b5 b6 i0 k1 k2 k3 k4 e1 e2' e3 e4 e5 e6 d1 d4 d0 g0 g1 g2 g3 g4 g5 fm fs lm ls lg
 go_upto_region 13 with(fail)
 obtain⟨X,hX⟩:∃X,X=(((W3.setCell ⟨S.sb,3,none⟩ (.int .i64 T)).setCell ⟨S.sb,4,none⟩ (.int .i64 0)).setCell ⟨S.sb,5,none⟩ (.slice A3 1 c3)).setCell ⟨S.sb,6,none⟩ (.int .i64 0):=⟨_,rfl⟩
 have MX:bQ P {M with wt:=false,fr:=false} {S with l:=T,a:=0,rA:=A3,rn:=1,rc:=c3,z:=0} X:=by
  rw[hX]
  exact(((HM3.out.setL T).setAt 0).setRing A3 1 c3).setSw 0
 have KX:aT P.B u X:=by
  rw[hX]
  exact(K1.out.step HBu.out HB3.out).set4 HKD.out (by decide) HM3.out.los _ _ _ _
 rw[←hX]
 obtain⟨sc4,NA4,nc4,OA4,oc4,HA4,hc4,MA4,mc4,⟨X0,_,_,_,X4,_⟩,_,⟨Zm,_,Lm,_⟩,⟨_,OX,_⟩,_⟩:=MX.cells
 rw[show({M with wt:=false,fr:=false}:Mst).ou=[ox] from hou] at X4 OX
 have X4':X.cell? ⟨P.mb,4,none⟩=some (.slice OA4 1 oc4):=X4
 have HMX:=Hd MX
 have HKX:=Hd KX
 have HIN:Hid (∀W,Below X.heap.size X W→Calls prog 73 #[.slice OA4 1 oc4,.int .i64 0,.int .i64 T,.int .i64 0] W fun e w'=>∃A c,e=.returned (.tuple #[.slice A 1 c,.int .i64 0])∧Out.dO.Own 145 w' P.B A c [Out.jV ox T 0]∧Below W.heap.size W w'):=Hd (fun W hW=>by
  refine(Out.zU OA4 oc4 0 1 [ox] rfl ox T 0 W (OX.at_.below hW) (by decide) rfl HT4.out.1 (by have:=HT4.out.2;omega) hx0 hx1).mono ?_
  rintro e w' ⟨A,c,rfl,ho,hb⟩
  exact⟨A,c,rfl,ho.lower (by have h1:=HMX.out.lt.2.2;have h2:=hW.size;omega),hb⟩)
 clear MX KX OX X4 hX p0 p1 p2 p3 pl x0 x1 x2 x3 x4 x5 x6 y1 y2 y3 y4 y5 y6 zm zs lzm lzs hpb
 go_cut [] (fun wx=>Hid (bQ P {M with ou:=[Out.jV ox T 0],fr:=false,wt:=false} {S with l:=T,a:=0,rA:=A3,rn:=1,rc:=c3,z:=0} wx)∧Hid (aT P.B u wx))
 case first=>
  go_region_with (first
   |(go_at_call 73;go_must (refine(HIN.out _ blw).mono ?_;rintro e W5 ⟨A5,c5,rfl,ho,hb⟩;have HB5:Hid (Below X.heap.size X W5):=Hd (aD blw hb);have HO5:=Hd ho;have HM5:=Hd (HMX.out.below HB5.out);obtain⟨sc5,NA5,nc5,OA5,oc5,HA5,hc5,MA5,mc5,⟨V0,_,_,_,V4,_⟩,_,⟨Vm,_,VL,_⟩,_⟩:=HM5.out.cells;clear ho hb)))
  all_goals go_wp2_with fail
  all_goals go_meet
  all_goals exact⟨Hd (HM5.out.ou HO5.out),by
   obtain⟨_,_,_,_,_,_,_,_,_,hbx,_⟩:=HM5.out.box
   exact Hd ((HKX.out.step HBu.out HB5.out).setT hbx (by decide) HM5.out.lo _ _)⟩
 case rest=>
 obtain⟨HM6,HK6⟩:=hcut
 have HO:=Hd (fun W=>rV T W)
 clear X0 X4' Zm Lm
 go_wp2_with fail
 refine(HO.out _).mono ?_
 rintro e W7 ⟨rfl,hb⟩
 have HM7:=Hd (HM6.out.below hb)
 have HK7:=Hd (HK6.out.step HBu.out hb)
 obtain⟨r0,r1,rf,rl⟩:=nE HG.out HK7.out
 clear hb
 go_wp2_with fail
 exact bodyPost_ret (v:=.agg #[.int .i64 0,.int .i64 T]) (by simp[results,results28,go_sem, *]) rfl ⟨rfl,nF HM7.out HG.out HBv.out HK7.out _ _⟩
end Go.Proofs.YtlibhkkckgkkkaaGreatDoor.Tf
