/- Part of the proof of TopFeeds: MdlP MdlQ. -/
import Derived.Test.YtlibhkkckgkkkaaGreatDoorZAJ
import Derived.Test.YtlibhkkckgkkkaaGreatDoorZAK
import Derived.Test.YtlibhkkckgkkkaaGreatDoorZBI
set_option maxHeartbeats 8000000
set_option maxRecDepth 100000
namespace Go.Proofs.YtlibhkkckgkkkaaGreatDoor.Tf
open Go.RowKit Go.Proofs.YtlibhkkckgkkkaaGreatDoor.Mem Go.Proofs.YtlibhkkckgkkkaaGreatDoor.Boo Go.Proofs.Tryz
theorem vW {W:World} {q b i:Nat} {x:Value} (h:W.cell? ⟨b,i,none⟩=some x) (hn:b≠q) (u0 u1 u2:Value):(((W.setCell ⟨q,0,none⟩ u0).setCell ⟨q,1,none⟩ u1).setCell ⟨q,2,none⟩ u2).cell? ⟨b,i,none⟩=some x:=by
 have k:∀(W:World) (j:Nat) (u:Value),(W.setCell ⟨q,j,none⟩ u).cell? ⟨b,i,none⟩=W.cell? ⟨b,i,none⟩:=fun W j u=>by
  simp only[World.cell?]
  rw[aG W ⟨q,j,none⟩ u b hn]
 rw[k,k,k]
 exact h
theorem box3 {W:World} {q:Nat} {t:TypeId} {x0 x1 x2:Value} (h:W.heap[q]?=some (.cells #[x0,x1,x2] t (0,0))) (u0 u1 u2:Value):
 (((W.setCell ⟨q,0,none⟩ u0).setCell ⟨q,1,none⟩ u1).setCell ⟨q,2,none⟩ u2).heap[q]?=some (.cells #[u0,u1,u2] t (0,0)):=
 aE _ q 2 _ t u2 (aE _ q 1 _ t u1 (aE W q 0 _ t u0 h))
theorem aKd {w W:World} {q:Nat} (h:Below w.heap.size w W) (hq:w.heap.size≤q) (u0 u1 u2:Value):Below w.heap.size w (((W.setCell ⟨q,0,none⟩ u0).setCell ⟨q,1,none⟩ u1).setCell ⟨q,2,none⟩ u2):=
 aF (aF (aF h (p:=⟨q,0,none⟩) hq _) (p:=⟨q,1,none⟩) hq _) (p:=⟨q,2,none⟩) hq _
theorem aF9 (T:Int) (A:Option Addr) (c:Nat) (W:World) (h:Out.dO.At W A c [⟨1,T,0,0,1⟩]):Calls prog 75 #[.slice A 1 c,.int .i64 0] W fun e w'=>∃A' c',e=.returned (.slice A' 1 c')∧Out.dI.At w' A' c' [0]∧Below W.heap.size W w':=by
 refine(Out.aI8 A c 1 [⟨1,T,0,0,1⟩] rfl 0 W h (by decide)).mono ?_
 rintro e w' ⟨A',c',rfl,ho,hb⟩
 exact⟨A',c',rfl,ho.at_,hb⟩
theorem aC5 (T:Int) (A:Option Addr) (c:Nat) (W:World) (h:Out.dO.At W A c [⟨1,T,0,0,1⟩]):Calls prog 76 #[.slice A 1 c,.int .i64 0,.int .i64 0] W fun e w'=>∃A' c',e=.returned (.tuple #[.slice A' 1 c',.agg #[.int .i64 0,.int .i64 1,.int .i64 T],.bool true,.int .i64 0])∧Out.dO.Own 145 w' W.heap.size A' c' [⟨1,T,1,2,1⟩]∧Below W.heap.size W w':=by
 refine(Out.aGa A c 0 1 [⟨1,T,0,0,1⟩] rfl ⟨1,T,0,0,1⟩ 0 W h (by decide) rfl (Int.le_refl 0)).mono ?_
 rintro e w' ⟨A',c',rfl,ho,hb⟩
 exact⟨A',c',rfl,ho,hb⟩
theorem aC6 (T:Int) (B:Nat) (A:Option Addr) (c:Nat) (W:World) (hB:B≤W.heap.size) (h:dM.At W A c []):Calls prog 77 #[.slice A 0 c,.agg #[.int .i64 0,.int .i64 1,.int .i64 T]] W fun e w'=>∃A' c',e=.returned (.tuple #[.slice A' 1 c',.int .i64 0])∧dM.Own 170 w' B A' c' [⟨0,1,T⟩]∧Below W.heap.size W w':=by
 refine(Mar.aGz A c [] ⟨0,1,T⟩ W h (by decide)).mono ?_
 rintro e w' ⟨A',c',rfl,ho,hb⟩
 exact⟨A',c',rfl,En.Own.lower (d:=dM) ho hB,hb⟩
theorem aLa (P:Mp) (M:Mst) (T:Int) (hou:M.ou=[⟨1,T,0,0,1⟩]) (hml:M.ml=[]) (s t:ByteArray) (v:World) (h:Md P M v):
 Calls prog 29 #[.pointer (some ⟨P.mb,0,none⟩),.agg #[.int .i64 6,.string s,.string t,.int .i64 0,.int .i64 0,.int .i64 0,.int .i64 0,.int .i64 0]] v fun e w'=>e=.returned (.agg #[.int .i64 0,.int .i64 1])∧Md P {M with ou:=[⟨1,T,1,2,1⟩],ml:=[⟨0,1,T⟩]} w'∧aT P.B v w':=by
 obtain⟨S,h⟩:=h
 obtain⟨w,hw⟩:∃w,w=(v.alloc (.cells (iV 6 s t 0 0 0 0 0) 42)).alloc (.cells #[.int .i64 0,.int .i64 0] 38):=⟨_,rfl⟩
 have HG:Hid (iH v w (iV 6 s t 0 0 0 0 0)):=Hd ⟨hw⟩
 have H:=Hd (h.below HG.out.below)
 have HBv:=Hd h.lt.2.2
 have HBw:Hid (P.B≤w.heap.size):=Hd (Nat.le_trans HBv.out HG.out.below.size)
 obtain⟨sc,NA,nc,OA,oc,HA,hc,MA,mc,⟨c0,_,_,_,c4,_,c6⟩,_,⟨fm,_,lm,_⟩,⟨_,oO,_,oM⟩,_⟩:=H.out.cells
 rw[hou] at c4 oO
 rw[hml] at c6 oM
 change w.cell? ⟨P.mb,4,none⟩=some (.slice OA 1 oc) at c4
 change w.cell? ⟨P.mb,6,none⟩=some (.slice MA 0 mc) at c6
 have HDU:Hid (∀W,Below w.heap.size w W→Calls prog 75 #[.slice OA 1 oc,.int .i64 0] W fun e w'=>∃A' c',e=.returned (.slice A' 1 c')∧Out.dI.At w' A' c' [0]∧Below W.heap.size W w'):=Hd (fun W hW=>aF9 T OA oc W (oO.at_.below hW))
 have HSE:Hid (∀W,Below w.heap.size w W→Calls prog 76 #[.slice OA 1 oc,.int .i64 0,.int .i64 0] W fun e w'=>∃A' c',e=.returned (.tuple #[.slice A' 1 c',.agg #[.int .i64 0,.int .i64 1,.int .i64 T],.bool true,.int .i64 0])∧Out.dO.Own 145 w' W.heap.size A' c' [⟨1,T,1,2,1⟩]∧Below W.heap.size W w'):=Hd (fun W hW=>aC5 T OA oc W (oO.at_.below hW))
 have HPO:Hid (∀W,Below w.heap.size w W→Calls prog 77 #[.slice MA 0 mc,.agg #[.int .i64 0,.int .i64 1,.int .i64 T]] W fun e w'=>∃A' c',e=.returned (.tuple #[.slice A' 1 c',.int .i64 0])∧dM.Own 170 w' P.B A' c' [⟨0,1,T⟩]∧Below W.heap.size W w'):=Hd (fun W hW=>aC6 T P.B MA mc W (Nat.le_trans HBw.out hW.size) (oM.at_.below hW))
 have HO:=Hd (fun W=>rV 1 W)
 clear h oO oM hou hml
 go_enter func29,ntmps29
 go_upto_region 1 with(fail)
 change Code.wp _ _ _ _ ((v.alloc (.cells (iV 6 s t 0 0 0 0 0) 42)).alloc (.cells #[.int .i64 0,.int .i64 0] 38))
 rw[←hw]
 clear hw
 go_cut [5] (fun q wx=>∃A c,q=.slice A 1 c∧Hid (Out.dI.At wx A c [0])∧Hid (Below w.heap.size w wx))
 case first=>
  go_region_held3 (fun W'=>W'.cell? ⟨P.mb,4,none⟩=some (.slice OA 1 oc)∧W'.cell? ⟨P.mb,0,none⟩=some (.int .i64 0)) (go_keep) (first
   |(go_at_call 75;go_must (refine(HDU.out _ blw).mono ?_;rintro e W1 ⟨A1,q1,rfl,ho,hb⟩;have HO1:=Hd ho;have HB1:=bst w hb;have k4:=aC HB1.out c4;have k0:=aC HB1.out c0;clear ho hb)))
  all_goals go_wp2_with fail
  all_goals go_meet
  all_goals exact⟨A1,q1,rfl,HO1,HB1⟩
 case rest=>
 obtain⟨DA,dc,rfl,HD1,HB1⟩:=hcut
 obtain⟨W1,hwc⟩:∃w,w=wc:=⟨_,rfl⟩
 subst hwc
 obtain⟨db,dof,rfl,dlt,d0⟩:=Out.qS HD1.out 0 0 rfl
 rw[Nat.add_zero] at d0
 have a4:=aC HB1.out c4
 have a0:=aC HB1.out c0
 have ml:P.mb<W1.heap.size:=bL W1 ⟨P.mb,4,none⟩ a4
 have n1:P.mb≠W1.heap.size:=by omega
 have n2:db≠W1.heap.size:=by omega
 go_upto_region 4 with(fail)
 go_cut [6,7,8,9] (fun b p sn e wx=>∃A c pb,b=.slice A 1 c∧p=.pointer (some ⟨pb,0,none⟩)∧sn=.bool true∧e=.int .i64 0∧w.heap.size≤pb∧Hid (wx.heap[pb]?=some (.cells #[.int .i64 0,.int .i64 1,.int .i64 T] 170 (0,0)))∧Hid (Out.dO.Own 145 wx P.B A c [⟨1,T,1,2,1⟩])∧Hid (Below w.heap.size w wx))
 case first=>
  go_region_held3 (fun W'=>W'.cell? ⟨P.mb,4,none⟩=some (.slice OA 1 oc)∧W'.cell? ⟨db,dof,none⟩=some (.int .i64 0)∧W'.cell? ⟨P.mb,0,none⟩=some (.int .i64 0)) (first|go_keep|(with_reducible exact⟨vW s0 n1 _ _ _,vW s1 n2 _ _ _,vW s2 n1 _ _ _⟩)) (first
   |(go_at_call 76;go_must (refine(HSE.out _ blw).mono ?_;rintro e W2 ⟨A2,q2,rfl,ho,hb⟩;have HB2:=bst w hb;have HX2:=bst W1 hb;have s0:=aC HB2.out c4;have s2:=aC HB2.out c0;have s1:=aC HX2.out d0;(first|(have HO2:Hid (Out.dO.Own 145 W2 (W1.heap.size+1) A2 q2 [⟨1,T,1,2,1⟩]):=Hd (ho.lower (by simp));have hr:W2.heap[W1.heap.size]?=some (.cells #[.int .i64 0,.int .i64 0,.int .i64 0] 170 (0,0)):=(hb.block _ (by first|(simp;done)|(simp;omega))).trans (aN _ _);have v0:=aA hr 0;have v1:=aA hr 1;have v2:=aA hr 2;have vf:∀o,W2.frozen? ⟨W1.heap.size,o,none⟩=false:=fun o=>fH hr o;have vl:=(gLt hr);have HR:=Hd hr;clear hr)|(have HO2:Hid (Out.dO.Own 145 W2 W1.heap.size A2 q2 [⟨1,T,1,2,1⟩]):=Hd (ho.lower (by simp))));clear ho hb)))
  all_goals go_wp2_with fail
  all_goals go_meet
  all_goals first
   |exact⟨A2,q2,W1.heap.size,rfl,rfl,rfl,rfl,HB1.out.size,Hd (box3 HR.out _ _ _),Hd ((((HO2.out.far (p:=⟨W1.heap.size,0,none⟩) (Nat.lt_succ_self _) _).far (p:=⟨W1.heap.size,1,none⟩) (Nat.lt_succ_self _) _).far (p:=⟨W1.heap.size,2,none⟩) (Nat.lt_succ_self _) _).lower (by have:=HBw.out;have:=HB1.out.size;omega)),Hd (aKd HB2.out HB1.out.size _ _ _)⟩
   |exact⟨A2,q2,W2.heap.size,rfl,rfl,rfl,rfl,HB2.out.size,Hd (aN _ _),Hd ((HO2.out.lower (by have:=HBw.out;have:=HB1.out.size;omega)).below (aB bR _)),Hd (aB HB2.out _)⟩
 case rest=>
 obtain⟨A2,q2,pb,rfl,rfl,rfl,rfl,hpb,HR2,HO2,HB2⟩:=hcut
 obtain⟨W2,hwc⟩:∃w,w=wc:=⟨_,rfl⟩
 subst hwc
 have b6:=aC HB2.out c6
 have p0:=aA HR2.out 0
 have p1:=aA HR2.out 1
 have p2:=aA HR2.out 2
 clear d0 dlt a4 a0 ml n1 n2
 go_upto_region 6 with(fail)
 go_cut [10,11] (fun l e wx=>∃A c,l=.slice A 1 c∧e=.int .i64 0∧Hid (dM.Own 170 wx P.B A c [⟨0,1,T⟩])∧Hid (Below W2.heap.size W2 wx))
 case first=>
  go_region_held3 (fun W'=>W'.cell? ⟨P.mb,6,none⟩=some (.slice MA 0 mc)∧W'.cell? ⟨pb,0,none⟩=some (.int .i64 0)∧W'.cell? ⟨pb,1,none⟩=some (.int .i64 1)∧W'.cell? ⟨pb,2,none⟩=some (.int .i64 T)) (go_keep) (first
   |(go_at_call 77;go_must (refine(HPO.out _ blw).mono ?_;rintro e W3 ⟨A3,q3,rfl,ho,hb⟩;have HO3:=Hd ho;have HB3:=bst W2 hb;have s0:=aC HB3.out b6;have s1:=aC HB3.out p0;have s2:=aC HB3.out p1;have s3:=aC HB3.out p2;clear ho hb)))
  all_goals go_wp2_with fail
  all_goals go_meet
  all_goals exact⟨A3,q3,rfl,rfl,HO3,HB3⟩
 case rest=>
 obtain⟨A3,q3,rfl,rfl,HO3,HB3'⟩:=hcut
 obtain⟨W3,hwc⟩:∃w,w=wc:=⟨_,rfl⟩
 subst hwc
 have HB3:Hid (Below w.heap.size w W3):=Hd (aD HB2.out HB3'.out)
 have HM3:=Hd (H.out.below HB3.out)
 obtain⟨sc3,NA3,nc3,OA3,oc3,HA3,hc3,MA3,mc3,⟨_,_,_,_,x4,_,x6⟩,_,⟨ym,_,zm,_⟩,_⟩:=HM3.out.cells
 obtain⟨cur,hbx⟩:∃cur,W3.heap[P.mb]?=some (.cells cur 73 (0,0)):=by
  obtain⟨_,_,_,_,_,_,_,_,_,hbx,_⟩:=HM3.out.box
  exact⟨_,hbx⟩
 have HBX:=Hd hbx
 have HR3:Hid (W3.heap[pb]?=some (.cells #[.int .i64 0,.int .i64 1,.int .i64 T] 170 (0,0))):=Hd ((HB3'.out.block _ (gLt HR2.out)).trans HR2.out)
 have HNE:Hid (pb≠P.mb):=Hd (by have:=H.out.lt.1;omega)
 clear hbx b6 p0 p1 p2 c0 c4 c6 fm lm hpb
 go_upto_region 11 with(fail)
 obtain⟨X,hX⟩:∃X,X=(W3.setCell ⟨P.mb,6,none⟩ (.slice A3 1 q3)).setCell ⟨P.mb,4,none⟩ (.slice A2 1 q2):=⟨_,rfl⟩
 have k1:Ker [73] W3 (W3.setCell ⟨P.mb,6,none⟩ (.slice A3 1 q3)):=Ker.set HBX.out (by decide) _ _
 have MX:bQ P {M with ou:=[⟨1,T,1,2,1⟩],ml:=[⟨0,1,T⟩]} S X:=by
  rw[hX]
  exact(HM3.out.ml HO3.out).ou (k1.own (HO2.out.below HB3'.out) (by decide))
 have KX:aT P.B w X:=by
  rw[hX]
  exact((aT.ofB HBw.out HB3.out).setT HBX.out (by decide) HM3.out.lo _ _).setT (aE _ _ _ _ _ _ HBX.out) (by decide) HM3.out.lo _ _
 have RX:X.heap[pb]?=some (.cells #[.int .i64 0,.int .i64 1,.int .i64 T] 170 (0,0)):=by
  rw[hX]
  exact(aG _ ⟨P.mb,4,none⟩ _ pb HNE.out).trans ((aG _ ⟨P.mb,6,none⟩ _ pb HNE.out).trans HR3.out)
 rw[←hX]
 have r1:=aA RX 1
 have HMX:=Hd MX
 have HKX:=Hd KX
 clear hX MX KX RX k1 x4 x6 ym zm
 go_wp2_with fail
 refine(HO.out _).mono ?_
 rintro e W7 ⟨rfl,hb⟩
 have HM7:=Hd (HMX.out.below hb)
 have HK7:=Hd (HKX.out.step HBw.out hb)
 obtain⟨r0,r1,rf,rl⟩:=nE HG.out HK7.out
 clear hb
 go_wp2_with fail
 exact bodyPost_ret (v:=.agg #[.int .i64 0,.int .i64 1]) (by simp[results,results29,go_sem, *]) rfl ⟨rfl,nF HM7.out HG.out HBv.out HK7.out _ _⟩
theorem fD {W:World} {q b i:Nat} {x:Value} (h:W.cell? ⟨b,i,none⟩=some x) (hn:b≠q) (u0 u1:Value):((W.setCell ⟨q,0,none⟩ u0).setCell ⟨q,1,none⟩ u1).cell? ⟨b,i,none⟩=some x:=by
 have k:∀(W:World) (j:Nat) (u:Value),(W.setCell ⟨q,j,none⟩ u).cell? ⟨b,i,none⟩=W.cell? ⟨b,i,none⟩:=fun W j u=>by
  simp only[World.cell?]
  rw[aG W ⟨q,j,none⟩ u b hn]
 rw[k,k]
 exact h
theorem tW {Pg:Program} {c:Code} {n:Nat} {K:Act→World→Prop} {Q:Exit→Act→World→Prop} {a:Act} {w:World} (h:c.wp Pg (Exit.then K (Exit.inBlock n (Exit.then K Q))) a w):c.wp Pg (Exit.inBlock n (Exit.then K Q)) a w:=
 Code.wp_mono (fun e a w h=>by cases e <;> exact h) h
theorem aJd (T:Int) (A:Option Addr) (c:Nat) (W:World) (h:dM.At W A c [⟨0,1,T⟩]):Calls prog 78 #[.slice A 1 c,.int .i64 0] W fun e w'=>∃A' c',e=.returned (.tuple #[.agg #[.int .i64 0,.int .i64 1,.int .i64 T],.slice A' 0 c',.bool true])∧dM.Own 170 w' W.heap.size A' c' []∧Below W.heap.size W w':=by
 refine(Mar.gV A c [⟨0,1,T⟩] 0 W h (by simp)).mono ?_
 rintro e w' ⟨A',c',rfl,ho,hb⟩
 exact⟨A',c',rfl,ho,hb⟩
theorem aNo (T:Int) (B:Nat) (A:Option Addr) (c:Nat) (W:World) (hB:B≤W.heap.size) (h:Out.dO.At W A c [⟨1,T,1,2,1⟩]):Calls prog 79 #[.slice A 1 c,.int .i64 0,.int .i64 1] W fun e w'=>∃A' c',e=.returned (.tuple #[.slice A' 1 c',.bool true])∧Out.dO.Own 145 w' B A' c' [⟨1,T,1,2,2⟩]∧Below W.heap.size W w':=by
 refine(Out.aOd A c 0 1 [⟨1,T,1,2,1⟩] rfl ⟨1,T,1,2,1⟩ 1 true (by simp[Out.ackB]) W h (by decide) rfl).mono ?_
 rintro e w' ⟨A',c',rfl,ho,hb⟩
 exact⟨A',c',rfl,ho.lower hB,hb⟩
theorem aJe (T:Int) (B:Nat) (A:Option Addr) (c:Nat) (W:World) (hB:B≤W.heap.size) (h:dSh.At W A c [(0,500)]):Calls prog 80 #[.slice A 1 c,.agg #[.int .i64 0,.int .i64 1,.int .i64 T]] W fun e w'=>∃A' c',e=.returned (.slice A' 1 c')∧dSh.Own 147 w' B A' c' [(1,T)]∧Below W.heap.size W w':=by
 refine(Mar.aF6 A c [⟨0,500⟩] ⟨0,1,T⟩ W ⟨h.le,h.max,h.nil,h.cell⟩ (by decide)).mono ?_
 rintro e w' ⟨A',c',rfl,ho,hb⟩
 exact⟨A',c',rfl,En.Own.lower (d:=dSh) (xs:=[(1,T)]) ho hB,hb⟩
theorem aQo (P:Mp) (M:Mst) (T:Int) (hou:M.ou=[⟨1,T,1,2,1⟩]) (hml:M.ml=[⟨0,1,T⟩]) (hsh:M.sh=[(0,500)]) (s t:ByteArray) (v:World) (h:Md P M v):
 Calls prog 30 #[.pointer (some ⟨P.mb,0,none⟩),.agg #[.int .i64 7,.string s,.string t,.int .i64 0,.int .i64 0,.int .i64 0,.int .i64 0,.int .i64 0]] v fun e w'=>e=.returned (.agg #[.int .i64 0,.int .i64 1])∧Md P {M with ou:=[⟨1,T,1,2,2⟩],sh:=[(1,T)],ml:=[]} w'∧aT P.B v w':=by
 obtain⟨S,h⟩:=h
 obtain⟨w,hw⟩:∃w,w=(v.alloc (.cells (iV 7 s t 0 0 0 0 0) 42)).alloc (.cells #[.int .i64 0,.int .i64 0] 38):=⟨_,rfl⟩
 have HG:Hid (iH v w (iV 7 s t 0 0 0 0 0)):=Hd ⟨hw⟩
 have H:=Hd (h.below HG.out.below)
 have HBv:=Hd h.lt.2.2
 have HBw:Hid (P.B≤w.heap.size):=Hd (Nat.le_trans HBv.out HG.out.below.size)
 obtain⟨sc,NA,nc,OA,oc,HA,hc,MA,mc,⟨_,_,_,_,c4,c5,c6⟩,_,⟨fm,_,lm,_⟩,⟨_,oO,oH,oM⟩,_⟩:=H.out.cells
 rw[hou] at c4 oO
 rw[hml] at c6 oM
 rw[hsh] at c5 oH
 change w.cell? ⟨P.mb,4,none⟩=some (.slice OA 1 oc) at c4
 change w.cell? ⟨P.mb,5,none⟩=some (.slice HA 1 hc) at c5
 change w.cell? ⟨P.mb,6,none⟩=some (.slice MA 1 mc) at c6
 have HTA:Hid (∀W,Below w.heap.size w W→Calls prog 78 #[.slice MA 1 mc,.int .i64 0] W fun e w'=>∃A' c',e=.returned (.tuple #[.agg #[.int .i64 0,.int .i64 1,.int .i64 T],.slice A' 0 c',.bool true])∧dM.Own 170 w' W.heap.size A' c' []∧Below W.heap.size W w'):=Hd (fun W hW=>aJd T MA mc W (oM.at_.below hW))
 have HO:=Hd (fun W=>rV 1 W)
 have HMB:Hid (P.mb<v.heap.size):=Hd h.lt.1
 have t3:w.cell? ⟨v.heap.size,3,none⟩=some (.int .i64 0):=aA HG.out.cmd 3
 have t4:w.cell? ⟨v.heap.size,4,none⟩=some (.int .i64 0):=aA HG.out.cmd 4
 have hlv:v.heap.size<w.heap.size:=bL w ⟨v.heap.size,3,none⟩ t3
 have n1:P.mb≠w.heap.size:=by omega
 have n2:v.heap.size≠w.heap.size:=by omega
 clear h oO oM oH hml
 go_enter func30,ntmps30
 go_upto_region 1 with(fail)
 change Code.wp _ _ _ _ ((v.alloc (.cells (iV 7 s t 0 0 0 0 0) 42)).alloc (.cells #[.int .i64 0,.int .i64 0] 38))
 rw[←hw]
 clear hw
 go_cut [5,6,7] (fun p r is wx=>∃A c pb,p=.pointer (some ⟨pb,0,none⟩)∧r=.slice A 0 c∧is=.bool true∧w.heap.size≤pb∧Hid (wx.heap[pb]?=some (.cells #[.int .i64 0,.int .i64 1,.int .i64 T] 170 (0,0)))∧Hid (dM.Own 170 wx P.B A c [])∧Hid (Below w.heap.size w wx))
 case first=>
  go_region_held3 (fun W'=>W'.cell? ⟨P.mb,6,none⟩=some (.slice MA 1 mc)∧W'.cell? ⟨v.heap.size,3,none⟩=some (.int .i64 0)) (first|go_keep|(with_reducible exact⟨vW s0 n1 _ _ _,vW s1 n2 _ _ _⟩)) (first
   |(go_at_call 78;go_must (refine(HTA.out _ blw).mono ?_;rintro e W2 ⟨A2,q2,rfl,ho,hb⟩;have HB2:=bst w hb;have s0:=aC HB2.out c6;have s1:=aC HB2.out t3;(first|(have HO2:Hid (dM.Own 170 W2 (w.heap.size+1) A2 q2 []):=Hd (ho.lower (by simp));have hr:W2.heap[w.heap.size]?=some (.cells #[.int .i64 0,.int .i64 0,.int .i64 0] 170 (0,0)):=(hb.block _ (by first|(simp;done)|(simp;omega))).trans (aN _ _);have v0:=aA hr 0;have v1:=aA hr 1;have v2:=aA hr 2;have vf:∀o,W2.frozen? ⟨w.heap.size,o,none⟩=false:=fun o=>fH hr o;have vl:=(gLt hr);have HR:=Hd hr;clear hr)|(have HO2:Hid (dM.Own 170 W2 w.heap.size A2 q2 []):=Hd (ho.lower (by simp))));clear ho hb)))
  all_goals go_wp2_with fail
  all_goals go_meet
  all_goals first
   |exact⟨A2,q2,w.heap.size,rfl,rfl,rfl,nR,Hd (box3 HR.out _ _ _),Hd ((((HO2.out.far (p:=⟨w.heap.size,0,none⟩) (Nat.lt_succ_self _) _).far (p:=⟨w.heap.size,1,none⟩) (Nat.lt_succ_self _) _).far (p:=⟨w.heap.size,2,none⟩) (Nat.lt_succ_self _) _).lower (by have:=HBw.out;omega)),Hd (aKd HB2.out nR _ _ _)⟩
   |exact⟨A2,q2,W2.heap.size,rfl,rfl,rfl,HB2.out.size,Hd (aN _ _),Hd ((HO2.out.lower HBw.out).below (aB bR _)),Hd (aB HB2.out _)⟩
 case rest=>
 obtain⟨A2,q2,pb,rfl,rfl,rfl,hpb,HR2,HO2,HB2⟩:=hcut
 obtain⟨W2,hwc⟩:∃w,w=wc:=⟨_,rfl⟩
 subst hwc
 have u4:=aC HB2.out t4
 have HM2:=Hd (H.out.below HB2.out)
 obtain⟨sc3,NA3,nc3,OA3,oc3,HA3,hc3,MA3,mc3,⟨_,_,_,_,x4,x5,x6⟩,_,⟨ym,_,zm,_⟩,⟨_,oO,oH,_⟩,_⟩:=HM2.out.cells
 obtain⟨cur,hbx⟩:∃cur,W2.heap[P.mb]?=some (.cells cur 73 (0,0)):=by
  obtain⟨_,_,_,_,_,_,_,_,_,hbx,_⟩:=HM2.out.box
  exact⟨_,hbx⟩
 have HNE:Hid (pb≠P.mb):=Hd (by have:=H.out.lt.1;omega)
 obtain⟨X,hX⟩:∃X,X=W2.setCell ⟨P.mb,6,none⟩ (.slice A2 0 q2):=⟨_,rfl⟩
 have k1:Ker [73] W2 (W2.setCell ⟨P.mb,6,none⟩ (.slice A2 0 q2)):=Ker.set hbx (by decide) _ _
 have HMX:Hid (bQ P {M with ml:=[]} S X):=Hd (by rw[hX];exact HM2.out.ml HO2.out)
 have HKX:Hid (aT P.B w X):=Hd (by rw[hX];exact(aT.ofB HBw.out HB2.out).setT hbx (by decide) HM2.out.lo _ _)
 have HRX:Hid (X.heap[pb]?=some (.cells #[.int .i64 0,.int .i64 1,.int .i64 T] 170 (0,0))):=Hd (by rw[hX];exact(aG _ ⟨P.mb,6,none⟩ _ pb HNE.out).trans HR2.out)
 clear hbx c4 c5 c6 fm lm n1 n2 t3 t4 hlv k1 oO oH
 go_upto_region 9 with(fail)
 rw[←hX]
 clear hX x4 x5 x6 ym zm u4
 obtain⟨sc4,NA4,nc4,OA4,oc4,HA4,hc4,MA4,mc4,⟨_,_,_,_,y4,y5,_⟩,_,⟨gm,_,jm,_⟩,⟨_,oO,_,_⟩,_⟩:=HMX.out.cells
 rw[show({M with ml:=[]}:Mst).ou=[⟨1,T,1,2,1⟩] from hou] at y4 oO
 change X.cell? ⟨P.mb,4,none⟩=some (.slice OA4 1 oc4) at y4
 have p0:=aA HRX.out 0
 have p1:=aA HRX.out 1
 have HAC:Hid (∀W,Below X.heap.size X W→Calls prog 79 #[.slice OA4 1 oc4,.int .i64 0,.int .i64 1] W fun e w'=>∃A' c',e=.returned (.tuple #[.slice A' 1 c',.bool true])∧Out.dO.Own 145 w' P.B A' c' [⟨1,T,1,2,2⟩]∧Below W.heap.size W w'):=Hd (fun W hW=>aNo T P.B OA4 oc4 W (by have:=HMX.out.lt.2.2;have:=hW.size;omega) (oO.at_.below hW))
 clear oO
 refine tW ?_
 go_cut [] (fun wx=>Hid (bQ P {M with ou:=[⟨1,T,1,2,2⟩],ml:=[]} S wx)∧Hid (aT P.B w wx)∧Hid (wx.heap[pb]?=some (.cells #[.int .i64 0,.int .i64 1,.int .i64 T] 170 (0,0))))
 case first=>
  go_region_with (first
   |(go_at_call 79;go_must (refine(HAC.out _ blw).mono ?_;rintro e W5 ⟨A5,c5,rfl,ho,hb⟩;have HB5:Hid (Below X.heap.size X W5):=Hd (aD blw hb);have HO5:=Hd ho;have HM5:=Hd (HMX.out.below HB5.out);obtain⟨sc5,NA5,nc5,OA5,oc5,HA5,hc5,MA5,mc5,⟨V0,_,_,_,V4,_⟩,_,⟨Vm,_,VL,_⟩,_⟩:=HM5.out.cells;clear ho hb)))
  all_goals go_wp2_with fail
  all_goals go_meet
  all_goals exact⟨Hd (HM5.out.ou HO5.out),by
   obtain⟨_,_,_,_,_,_,_,_,_,hbx,_⟩:=HM5.out.box
   exact Hd ((HKX.out.step HBw.out HB5.out).setT hbx (by decide) HM5.out.lo _ _),Hd ((aG _ ⟨P.mb,4,none⟩ _ pb HNE.out).trans ((HB5.out.block _ (gLt HRX.out)).trans HRX.out))⟩
 case rest=>
 obtain⟨HMY,HKY,HRY⟩:=hcut
 obtain⟨Y,hwc⟩:∃w,w=wc:=⟨_,rfl⟩
 subst hwc
 clear y4 y5 p0 p1 gm jm HAC
 obtain⟨sc4,NA4,nc4,OA4,oc4,HA4,hc4,MA4,mc4,⟨_,_,_,_,_,y5,_⟩,_,⟨gm,_,jm,_⟩,⟨_,_,oH,_⟩,_⟩:=HMY.out.cells
 rw[show({M with ou:=[⟨1,T,1,2,2⟩],ml:=[]}:Mst).sh=[(0,500)] from hsh] at y5 oH
 change Y.cell? ⟨P.mb,5,none⟩=some (.slice HA4 1 hc4) at y5
 have p0:=aA HRY.out 0
 have p1:=aA HRY.out 1
 have p2:=aA HRY.out 2
 have HSW:Hid (∀W,Below Y.heap.size Y W→Calls prog 80 #[.slice HA4 1 hc4,.agg #[.int .i64 0,.int .i64 1,.int .i64 T]] W fun e w'=>∃A' c',e=.returned (.slice A' 1 c')∧dSh.Own 147 w' P.B A' c' [(1,T)]∧Below W.heap.size W w'):=Hd (fun W hW=>aJe T P.B HA4 hc4 W (by have:=HMY.out.lt.2.2;have:=hW.size;omega) (oH.at_.below hW))
 clear oH
 go_upto_region 10 with(fail)
 go_cut [] (fun wx=>Hid (bQ P {M with ou:=[⟨1,T,1,2,2⟩],sh:=[(1,T)],ml:=[]} S wx)∧Hid (aT P.B w wx)∧Hid (wx.heap[pb]?=some (.cells #[.int .i64 0,.int .i64 1,.int .i64 T] 170 (0,0))))
 case first=>
  go_region_with (first
   |(go_at_call 80;go_must (refine(HSW.out _ blw).mono ?_;rintro e W5 ⟨A5,c5,rfl,ho,hb⟩;have HB5:Hid (Below Y.heap.size Y W5):=Hd (aD blw hb);have HO5:=Hd ho;have HM5:=Hd (HMY.out.below HB5.out);obtain⟨sc5,NA5,nc5,OA5,oc5,HA5,hc5,MA5,mc5,⟨V0,_,_,_,_,V5,_⟩,_,⟨Vm,_,VL,_⟩,_⟩:=HM5.out.cells;clear ho hb)))
  all_goals go_wp2_with fail
  all_goals go_meet
  all_goals exact⟨Hd (HM5.out.sh HO5.out),by
   obtain⟨_,_,_,_,_,_,_,_,_,hbx,_⟩:=HM5.out.box
   exact Hd ((HKY.out.step HBw.out HB5.out).setT hbx (by decide) HM5.out.lo _ _),Hd ((aG _ ⟨P.mb,5,none⟩ _ pb HNE.out).trans ((HB5.out.block _ (gLt HRY.out)).trans HRY.out))⟩
 case rest=>
 obtain⟨HMZ,HKZ,HRZ⟩:=hcut
 obtain⟨Z,hwc⟩:∃w,w=wc:=⟨_,rfl⟩
 subst hwc
 clear y5 p0 p1 p2 gm jm HSW
 obtain⟨sc4,NA4,nc4,OA4,oc4,HA4,hc4,MA4,mc4,⟨_,_,_,_,_,y5,_⟩,_,⟨_,_,jm,_⟩,⟨_,_,oH,_⟩,_⟩:=HMZ.out.cells
 change Z.cell? ⟨P.mb,5,none⟩=some (.slice HA4 1 hc4) at y5
 have hres:=HKZ.out.other _ _ _ _ (by decide) HG.out.res
 have HNO:=Hd (fS oH hres (by decide))
 obtain⟨g,o,rfl,glt,hg⟩:=oH.at_.get 0 (1,T) rfl
 obtain⟨rfl,_,_⟩:=lB oH
 have g0:Z.cell? ⟨g,0,none⟩=some (.int .i64 1):=hg 0 (by decide)
 have p0:=aA HRZ.out 0
 have n1:P.mb≠v.heap.size+1:=by have:=HMB.out;omega
 have n2:pb≠v.heap.size+1:=by have:=HG.out.size;omega
 have n3:g≠v.heap.size+1:=fun e=>HNO.out (by rw[e];rfl)
 clear oH hres hg
 go_upto_region 12 with(fail)
 go_region_held3 (fun W'=>W'.cell? ⟨P.mb,5,none⟩=some (.slice (some ⟨g,0,none⟩) 1 hc4)∧W'.cell? ⟨pb,0,none⟩=some (.int .i64 0)∧W'.cell? ⟨g,0,none⟩=some (.int .i64 1)) (first|go_keep|(with_reducible exact⟨fD s0 n1 _ _,fD s1 n2 _ _,fD s2 n3 _ _⟩)) (first
  |(go_at_call 23;go_must (refine rC Z (HO.out _) ?_;intro W8 hb HZ8;have s0:=aC HZ8.out y5;have s1:=aC HZ8.out p0;have s2:=aC HZ8.out g0;have HK8:=Hd (HKZ.out.step HBw.out HZ8.out);obtain⟨r0,r1,rf,rl⟩:=nE HG.out HK8.out;clear hb)))
 all_goals go_wp2_with fail
 all_goals exact bodyPost_ret (v:=.agg #[.int .i64 0,.int .i64 1]) (by simp[results,results30,go_sem, *]) rfl ⟨rfl,nF (HMZ.out.below HZ8.out) HG.out HBv.out HK8.out _ _⟩
end Go.Proofs.YtlibhkkckgkkkaaGreatDoor.Tf
