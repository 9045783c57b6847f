/- Part of the proof of TopFeeds: MdlM MdlN MdlO LwP LwQ LwR. -/
import Derived.Test.YtlibhkkckgkkkaaGreatDoorZBC
import Derived.Test.YtlibhkkckgkkkaaGreatDoorZBI
import Derived.Test.YtlibhkkckgkkkaaGreatDoorZBJ
import Derived.Test.YtlibhkkckgkkkaaGreatDoorZBK
import Derived.Test.YtlibhkkckgkkkaaGreatDoorZBN
import Derived.Test.YtlibhkkckgkkkaaGreatDoorZBS
set_option maxHeartbeats 4000000
set_option maxRecDepth 100000
namespace Go.Proofs.YtlibhkkckgkkkaaGreatDoor.Tf
open Go.RowKit Go.Proofs.YtlibhkkckgkkkaaGreatDoor.Mem Go.Proofs.YtlibhkkckgkkkaaGreatDoor.Boo
theorem xV (A:Option Addr) (c n:Nat) (xs:List eG) (hn:xs.length=n) (s k l:ByteArray) (q p:Int) (w:World) (h:dL.At w A c xs) (hb:n * 32≤140737488355328) (hs:l.size≤9223372036854775807) (hk:okP l p 0=true) (hp:p≠0) (hbb:gX (soS l) 8 xs=true):
 Calls Tryz.prog 67 #[.slice A n c,.agg #[.string s,.int .i64 q,.string k,.string l,.int .i64 p],.int .i64 0] w (fun r w'=>∃A c,r=.returned (.tuple #[.slice A (cY (soS l) ⟨l,p,0⟩ 8 xs).length c,.int .i64 0])∧dL.Own 249 w' w.heap.size A c (cY (soS l) ⟨l,p,0⟩ 8 xs)∧Below w.heap.size w w'):=by
 have HPU:Hid (∀W,Below w.heap.size w W→Calls Tryz.prog 134 #[.slice A n c,.string l,.int .i64 p,.int .i64 0] W (fun r w'=>∃A c,r=.returned (.tuple #[.slice A (cY (soS l) ⟨l,p,0⟩ 8 xs).length c,.int .i64 0])∧dL.Own 249 w' W.heap.size A c (cY (soS l) ⟨l,p,0⟩ 8 xs)∧Below W.heap.size W w')):=Hd (fun W hW=>aLi A c n xs hn l p 0 W (h.below hW) hb hs hk hbb)
 have hz:(p==0)=false:=bN hp
 generalize cY (soS l) ⟨l,p,0⟩ 8 xs=ys at *
 clear h hn hb hs hk hbb hp
 go_enter Tryz.func67,Tryz.ntmps67
 go_wp2_with (first
  |(go_at_call 134;go_must (refine(HPU.out _ blw).mono ?_;rintro e W1 ⟨A1,c1,rfl,ho,hb⟩;have HB1:=bst w hb;have HO1:Hid (dL.Own 249 W1 w.heap.size A1 c1 ys):=Hd (ho.lower (by simp));clear ho hb)))
 exact bodyPost_ret (v:=.tuple #[.slice A1 ys.length c1,.int .i64 0]) (by simp[results,Tryz.results67,go_sem, *]) rfl ⟨A1,c1,rfl,HO1.out,HB1.out⟩
end Go.Proofs.YtlibhkkckgkkkaaGreatDoor.Tf
namespace Go.Proofs.YtlibhkkckgkkkaaGreatDoor.Tf
open Go.RowKit Go.Proofs.YtlibhkkckgkkkaaGreatDoor.Mem Go.Proofs.YtlibhkkckgkkkaaGreatDoor.Boo Go.Proofs.Tryz
theorem aIq (P:Mp) (M:Mst) (T s l:ByteArray) (n p:Int) (hde:∀W,Gl W→Calls prog 64 #[.string T] W (Ret (.tuple #[.agg #[.string s,.int .i64 n,.string aX,.string l,.int .i64 p],.int .i64 0,.int .i64 0]) W))
 (hs:s.size≤1000) (hl:l.size≤1000) (hse:M.se.length≤8) (hbk:M.bk.length≤8) (hkf:okF s n=true) (hf:fI (soN s) M.se=-1∨∃(k:Nat) (x:fA),fI (soN s) M.se=k∧M.se[k]?=some x∧x.n<n) (hbs:gX (soN s) 8 M.se=true)
 (hkp:okP l p 0=true) (hp:p≠0) (hbb:gX (soS l) 8 M.bk=true) (v:World) (G:Gl v) (h:Md P M v):
 Calls prog 26 #[.pointer (some ⟨P.mb,0,none⟩),.agg #[.int .i64 3,.string ⟨#[]⟩,.string T,.int .i64 0,.int .i64 0,.int .i64 0,.int .i64 0,.int .i64 0]] v fun e w'=>e=.returned (.agg #[.int .i64 0,.int .i64 0])∧Md P {M with bk:=cY (soS l) ⟨l,p,0⟩ 8 M.bk,se:=cY (soN s) ⟨s,n⟩ 8 M.se,wt:=true} w'∧aT P.B v w':=by
 obtain⟨S,h⟩:=h
 obtain⟨w,hw⟩:∃w,w=(v.alloc (.cells (iV 3 ⟨#[]⟩ T 0 0 0 0 0) 42)).alloc (.cells #[.int .i64 0,.int .i64 0] 38):=⟨_,rfl⟩
 have HG:Hid (iH v w (iV 3 ⟨#[]⟩ T 0 0 0 0 0)):=Hd ⟨hw⟩
 have H:=Hd (h.below HG.out.below)
 have HBv:=Hd h.lt.2.2
 have HBw:Hid (P.B≤w.heap.size):=Hd (Nat.le_trans HBv.out HG.out.below.size)
 have HGL:=Hd (G.below HG.out.below)
 have HDE:Hid (∀W,Below w.heap.size w W→Calls prog 64 #[.string T] W (Ret (.tuple #[.agg #[.string s,.int .i64 n,.string aX,.string l,.int .i64 p],.int .i64 0,.int .i64 0]) W)):=Hd (fun W hW=>hde W (HGL.out.below hW))
 have HPL:Hid (∀W,Below w.heap.size w W→Calls prog 61 #[.pointer (some ⟨P.mb,0,none⟩),.string aX] W (Ret (.int .i64 0) W)):=Hd (fun W hW=>rX P M S W (H.out.below hW))
 obtain⟨sc,NA,nc,OA,oc,HA,hc,MA,mc,⟨d0,d1,d2,_⟩,⟨e1,e2,_⟩,⟨fm,fs,lm,ls⟩,⟨own,_⟩,sc1,sc2⟩:=H.out.cells
 obtain⟨m,hm⟩:∃m,M.se.length=m:=⟨_,rfl⟩
 obtain⟨b,hb⟩:∃b,M.bk.length=b:=⟨_,rfl⟩
 have HBK:=Hd H.out.bk
 rw[hm] at d2
 rw[hb] at e2
 have HOW:=Hd own
 have HFR:Hid (∀W,Below w.heap.size w W→Calls prog 66 #[.slice NA m nc,.string s,.int .i64 n] W (fun r w'=>∃A c,r=.returned (.tuple #[.slice A (cY (soN s) ⟨s,n⟩ 8 M.se).length c,.bool true,.int .i64 0])∧dN.Own 239 w' P.B A c (cY (soN s) ⟨s,n⟩ 8 M.se)∧Below W.heap.size W w')):=Hd (fun W hW=>by
  refine(aEh NA nc m M.se hm s n W (HOW.out.at_.below hW) (by omega) (by omega) hkf hf hbs).mono ?_
  rintro e w' ⟨A,c,rfl,ho,hb⟩
  exact⟨A,c,rfl,ho.lower (Nat.le_trans HBw.out hW.size),hb⟩)
 have HCH:Hid (∀W,Below w.heap.size w W→Calls prog 67 #[.slice S.bA b S.bc,.agg #[.string s,.int .i64 n,.string aX,.string l,.int .i64 p],.int .i64 0] W (fun r w'=>∃A c,r=.returned (.tuple #[.slice A (cY (soS l) ⟨l,p,0⟩ 8 M.bk).length c,.int .i64 0])∧dL.Own 249 w' P.B A c (cY (soS l) ⟨l,p,0⟩ 8 M.bk)∧Below W.heap.size W w')):=Hd (fun W hW=>by
  refine(xV S.bA S.bc b M.bk hb s aX l n p W (HBK.out.at_.below hW) (by omega) (by omega) hkp hp hbb).mono ?_
  rintro e w' ⟨A,c,rfl,ho,hb⟩
  exact⟨A,c,rfl,ho.lower (Nat.le_trans HBw.out hW.size),hb⟩)
 have HO:=Hd (fun W=>rV 0 W)
 have t2:w.cell? ⟨v.heap.size,2,none⟩=some (.string T):=aA HG.out.cmd 2
 obtain⟨ys,hys⟩:∃ys,cY (soS l) ⟨l,p,0⟩ 8 M.bk=ys:=⟨_,rfl⟩
 obtain⟨zs,hzs⟩:∃zs,cY (soN s) ⟨s,n⟩ 8 M.se=zs:=⟨_,rfl⟩
 rw[hys] at HCH ⊢
 rw[hzs] at HFR ⊢
 clear h G hde hs hl hse hbk hkf hf hbs hkp hp hbb hm hb own hys hzs d1
 go_enter func26,ntmps26
 go_wp2_with fail
 rw[←hw]
 clear hw
 refine(HDE.out w bR).mono ?_
 rintro e W1 ⟨rfl,hb⟩
 have HB1:Hid (Below w.heap.size w W1):=Hd hb
 clear hb t2
 go_wp2_with fail
 refine(HPL.out _ blw).mono ?_
 rintro e W2 ⟨rfl,hb⟩
 have HB2:=bst w hb
 have hrf:W2.heap[W1.heap.size]?=some (.cells #[.string s,.int .i64 n,.string aX,.string l,.int .i64 p] 151 (0,0)):=(hb.block _ (by first|(simp;done)|(simp;omega))).trans (aN _ _)
 have HRF:=Hd hrf
 have f0:=aA hrf 0
 have f1:=aA hrf 1
 have f2:=aA hrf 2
 have f3:=aA hrf 3
 have f4:=aA hrf 4
 have fl:=(gLt hrf)
 have g2:=aC HB2.out d2
 clear hb hrf
 go_upto_region 7 with(fail)
 go_cut [9,10,6] (fun a b e wx=>∃A c,a=.slice A zs.length c∧b=.bool true∧e=.int .i64 0∧Hid (dN.Own 239 wx P.B A c zs)∧Hid (Below W2.heap.size W2 wx))
 case first=>
  go_region_held3 (fun W'=>W'.cell? ⟨P.mb,2,none⟩=some (.slice NA m nc)∧W'.cell? ⟨W1.heap.size,0,none⟩=some (.string s)∧W'.cell? ⟨W1.heap.size,1,none⟩=some (.int .i64 n)) (go_keep) (first
   |(go_at_call 66;go_must (refine(HFR.out _ blw).mono ?_;rintro e W3 ⟨A3,c3,rfl,ho,hb⟩;have HC3:=bst W2 hb;have s0:=aC HC3.out g2;have s1:=aC HC3.out f0;have s2:=aC HC3.out f1;have HO3:=Hd ho;clear ho hb)))
  all_goals go_wp2_with fail
  all_goals go_meet
  all_goals exact⟨A3,c3,rfl,rfl,rfl,HO3,HC3⟩
 case rest=>
 obtain⟨A3,c3,rfl,rfl,rfl,HO3,HC3⟩:=hcut
 obtain⟨W3,hwc⟩:∃w,w=wc:=⟨_,rfl⟩
 subst hwc
 have HB3:Hid (Below w.heap.size w W3):=Hd (aD HB2.out HC3.out)
 have u0:=aC HC3.out f0
 have u1:=aC HC3.out f1
 have u2:=aC HC3.out f2
 have u3:=aC HC3.out f3
 have u4:=aC HC3.out f4
 obtain⟨sc3,NA3,nc3,OA3,oc3,HA3,hc3,MA3,mc3,⟨x0,x1,_⟩,⟨_,y2,_⟩,⟨_,_,lm3,ls3⟩,_,sc31,sc32⟩:=(H.out.below HB3.out).cells
 have y2':W3.cell? ⟨S.sb,2,none⟩=some (.slice S.bA b S.bc):=aC HB3.out e2
 have ul:W1.heap.size<W3.heap.size:=bL W3 ⟨W1.heap.size,0,none⟩ u0
 clear g2 f0 f1 f2 f3 f4 fl d0 e1 e2 d2 fm fs lm ls y2
 go_upto_region 12 with(fail)
 go_cut [11,6] (fun a e wx=>∃A c,a=.slice A ys.length c∧e=.int .i64 0∧Hid (dL.Own 249 wx P.B A c ys)∧Hid (Below W3.heap.size W3 wx))
 case first=>
  go_region_held3 (fun W'=>W'.cell? ⟨P.mb,1,none⟩=some (.slice (some ⟨S.sb,0,none⟩) 1 sc3)∧W'.cell? ⟨S.sb,2,none⟩=some (.slice S.bA b S.bc)∧W'.cell? ⟨W1.heap.size,0,none⟩=some (.string s)∧W'.cell? ⟨W1.heap.size,1,none⟩=some (.int .i64 n)∧W'.cell? ⟨W1.heap.size,2,none⟩=some (.string aX)∧W'.cell? ⟨W1.heap.size,3,none⟩=some (.string l)∧W'.cell? ⟨W1.heap.size,4,none⟩=some (.int .i64 p)∧W'.cell? ⟨P.mb,0,none⟩=some (.int .i64 0)) (go_keep) (first
   |(go_at_call 67;go_must (refine(HCH.out _ blw).mono ?_;rintro e W4 ⟨A4,c4,rfl,ho,hb⟩;have HC4:=bst W3 hb;have s0:=aC HC4.out x1;have s1:=aC HC4.out y2';have s2:=aC HC4.out u0;have s3:=aC HC4.out u1;have s4:=aC HC4.out u2;have s5:=aC HC4.out u3;have s6:=aC HC4.out u4;have s7:=aC HC4.out x0;have HO4:=Hd ho;clear ho hb)))
  all_goals go_wp2_with fail
  all_goals go_meet
  all_goals exact⟨A4,c4,rfl,rfl,HO4,HC4⟩
 case rest=>
 obtain⟨A4,c4,rfl,rfl,HO4,HC4⟩:=hcut
 obtain⟨W4,hwc⟩:∃w,w=wc:=⟨_,rfl⟩
 subst hwc
 have HB4:Hid (Below w.heap.size w W4):=Hd (aD HB3.out HC4.out)
 have HM4:=Hd (H.out.below HB4.out)
 obtain⟨sc4,NA4,nc4,OA4,oc4,HA4,hc4,MA4,mc4,⟨v0,v1,v2,_⟩,⟨_,k2,_⟩,⟨vm,vs,lm4,ls4⟩,_,sc41,sc42⟩:=HM4.out.cells
 have hne:P.mb≠S.sb:=fun e=>by
  obtain⟨_,_,_,_,_,_,_,_,_,h1,_⟩:=HM4.out.box
  obtain⟨cur,hk⟩:=HM4.out.kind
  rw[e,hk] at h1
  injection h1 with h1
  injection h1 with _ h1 _
  exact absurd h1 (by decide)
 obtain⟨cur4,hk4⟩:=HM4.out.kind
 have M5:bQ P {M with bk:=ys,se:=zs} {S with bA:=A4,bc:=c4} ((W4.setCell ⟨S.sb,2,none⟩ (.slice A4 ys.length c4)).setCell ⟨P.mb,2,none⟩ (.slice A3 zs.length c3)):=(HM4.out.setBk HO4.out).se ((Ker.set (ts:=[143]) hk4 (by decide) _ _).own (HO3.out.below HC4.out) (by decide))
 have K5:aT P.B w ((W4.setCell ⟨S.sb,2,none⟩ (.slice A4 ys.length c4)).setCell ⟨P.mb,2,none⟩ (.slice A3 zs.length c3)):=by
  obtain⟨_,_,_,_,_,_,_,_,_,h1,_⟩:=(HM4.out.setBk HO4.out).box
  exact((aT.ofB HBw.out HB4.out).setT hk4 (by decide) HM4.out.los _ _).setT h1 (by decide) HM4.out.lo _ _
 have HM5:=Hd M5
 have HK5:=Hd K5
 have HAS:Hid (Calls prog 63 #[.pointer (some ⟨P.mb,0,none⟩),.int .i64 0,.int .i64 1] ((W4.setCell ⟨S.sb,2,none⟩ (.slice A4 ys.length c4)).setCell ⟨P.mb,2,none⟩ (.slice A3 zs.length c3)) fun e w'=>e=.returned (.tuple #[])∧bQ P {M with bk:=ys,se:=zs,wt:=true} {S with bA:=A4,bc:=c4} w'∧aT P.B w w'):=Hd (by
  refine(aHq P _ _ 1 (by decide) _ HM5.out).mono ?_
  rintro e w' ⟨rfl,h1,h2⟩
  exact⟨rfl,h1,HK5.out.trans h2⟩)
 clear M5 K5 hk4 u0 u1 u2 u3 u4 x0 x1 y2' ul lm3 ls3
 go_wp2_with fail
 refine HAS.out.mono ?_
 rintro e W6 ⟨rfl,h6,k6⟩
 have HM6:=Hd h6
 have HK6:=Hd k6
 clear h6 k6 v0 v1 v2 k2 vm vs
 go_wp2_with fail
 refine(HO.out _).mono ?_
 rintro e W7 ⟨rfl,hb⟩
 have HM7:=Hd (HM6.out.below hb)
 have HK7:=Hd (HK6.out.step HBw.out hb)
 obtain⟨r0,r1,rf,rl⟩:=nE HG.out HK7.out
 clear hb
 go_wp2_with fail
 exact bodyPost_ret (v:=.agg #[.int .i64 0,.int .i64 0]) (by simp[results,results26,go_sem, *]) rfl ⟨rfl,nF HM7.out HG.out HBv.out HK7.out _ _⟩
theorem aRu:Ent 24:=enters_of func24 (by kernel_rfl) rfl
theorem aQi:Ent 25:=enters_of func25 (by kernel_rfl) rfl
theorem aQe:Ent 26:=enters_of func26 (by kernel_rfl) rfl
theorem aI3:Ent 28:=enters_of func28 (by kernel_rfl) rfl
theorem sJ (P:Mp) (M:Mst) (N:Int) (f i:Nat) (c:Cmd) (hi:fP i=some c.k) (hfi:fnOf (i-1)=some f) (hi40:i<40) (he:Ent f) (w:World) (hB:P.B≤w.heap.size)
 (hf:∀W,Below w.heap.size w W→Calls prog f #[dY P.mb,c.val] W fun e w'=>e=.returned (.agg #[.int .i64 0,.int .i64 N])∧Md P M w'∧aT P.B W w'):
 Calls prog 9 #[dY P.mb,c.val] w fun e w'=>e=.returned (.agg #[.int .i64 0,.int .i64 N])∧Md P M w'∧aT P.B w w':=by
 refine(aQn P.B P.mb f i c hi hfi hi40 he (fun W er n=>er=0∧n=N∧Md P M W) w (fun W b cs er n v k hb ⟨h1,h2,h3⟩=>⟨h1,h2,h3.ker (Ker.set (ts:=[38]) hb (by decide) k v) (by decide)⟩) (fun W hW=>(hf W hW).mono ?_) hB).mono ?_
 ·rintro e w' ⟨rfl,h1,h2⟩
  exact⟨0,N,rfl,⟨rfl,rfl,h1⟩,h2⟩
 ·rintro e w' ⟨er,n,rfl,⟨rfl,rfl,h1⟩,h2⟩
  exact⟨rfl,h1,h2⟩
abbrev aJu:Cmd:=⟨1,aX,⟨#[]⟩,500,0,0,0,0⟩
abbrev aAt (C:Cf):Cmd:=⟨2,aX,bl (aM C.x),C.lo,C.hi,C.co,C.a,C.b⟩
abbrev vF (T:ByteArray):Cmd:=⟨3,⟨#[]⟩,T,0,0,0,0,0⟩
abbrev sO:Cmd:=⟨5,⟨#[]⟩,⟨#[]⟩,0,0,0,0,0⟩
abbrev sV:Mst:=⟨none,[],[],[⟨0,0,0,0,0⟩],[(0,500)],[],true,false⟩
theorem aJb (w:World):Calls prog 8 #[] w fun e w'=>∃P:Mp,P.B=w.heap.size∧e=.returned (dY P.mb)∧w'.heap[P.mb]?=some (.cells (qF P.qb (.slice none 0 0) (.slice none 0 0) (.slice none 0 0)) 73 (0,0))∧fB P.qb P.hb P.pb P.db P.B [] w'∧P.B≤P.mb∧Below w.heap.size w w':=by
 refine(aD1 w).mono ?_
 rintro e w' ⟨mb,qb,hb,pb,db,rfl,h1,h2,h3,h4⟩
 exact⟨⟨w.heap.size,mb,qb,hb,pb,db⟩,rfl,rfl,h1,h2,h3,h4⟩
theorem aJa (P:Mp) (w:World) (hm:w.heap[P.mb]?=some (.cells (qF P.qb (.slice none 0 0) (.slice none 0 0) (.slice none 0 0)) 73 (0,0))) (hq:fB P.qb P.hb P.pb P.db P.B [] w) (hB:P.B≤P.mb):
 Calls prog 9 #[dY P.mb,aJu.val] w fun e w'=>e=.returned (.agg #[.int .i64 0,.int .i64 0])∧Md P sV w'∧aT P.B w w':=
 sJ P sV 0 24 3 aJu rfl rfl (by decide) aRu w (by have:=(gLt hm);omega) (fun W hW=>aK8 P W ((hW.block _ (gLt hm)).trans hm) (hq.below hW) hB)
theorem aJc (P:Mp) (M:Mst) (C:Cf) (hc:mB C) (w:World) (G:Gl w) (h:Md P M w):Calls prog 9 #[dY P.mb,(aAt C).val] w fun e w'=>e=.returned (.agg #[.int .i64 0,.int .i64 0])∧Md P {M with C:=some C,wt:=true} w'∧aT P.B w w':=
 sJ P _ 0 25 6 (aAt C) rfl rfl (by decide) aQi w (by obtain⟨S,h⟩:=h;exact h.lt.2.2) (fun W hW=>aAp P M C hc W (G.below hW) (h.below hW))
theorem aB9 (P:Mp) (M:Mst) (T s l:ByteArray) (n p:Int) (hde:∀W,Gl W→Calls prog 64 #[.string T] W (Ret (.tuple #[.agg #[.string s,.int .i64 n,.string aX,.string l,.int .i64 p],.int .i64 0,.int .i64 0]) W))
 (hs:s.size≤1000) (hl:l.size≤1000) (hse:M.se.length≤8) (hbk:M.bk.length≤8) (hkf:okF s n=true) (hf:fI (soN s) M.se=-1∨∃(k:Nat) (x:fA),fI (soN s) M.se=k∧M.se[k]?=some x∧x.n<n) (hbs:gX (soN s) 8 M.se=true)
 (hkp:okP l p 0=true) (hp:p≠0) (hbb:gX (soS l) 8 M.bk=true) (w:World) (G:Gl w) (h:Md P M w):
 Calls prog 9 #[dY P.mb,(vF T).val] w fun e w'=>e=.returned (.agg #[.int .i64 0,.int .i64 0])∧Md P {M with bk:=cY (soS l) ⟨l,p,0⟩ 8 M.bk,se:=cY (soN s) ⟨s,n⟩ 8 M.se,wt:=true} w'∧aT P.B w w':=
 sJ P _ 0 26 9 (vF T) rfl rfl (by decide) aQe w (by obtain⟨S,h⟩:=h;exact h.lt.2.2) (fun W hW=>aIq P M T s l n p hde hs hl hse hbk hkf hf hbs hkp hp hbb W (G.below hW) (h.below hW))
theorem aNn (P:Mp) (hP:6≤P.B) (M:Mst) (C:Cf) (hC:M.C=some C) (hc:mB C) (hwt:M.wt=true) (ht:eO C (gS M.bk)=(0,false)) (hL:iY (gS M.bk)) (w:World) (G:Gl w) (h:Md P M w):
 Calls prog 9 #[dY P.mb,sO.val] w fun e w'=>e=.returned (.agg #[.int .i64 0,.int .i64 0])∧Md P {M with wt:=false} w'∧aT P.B w w':=
 sJ P _ 0 28 15 sO rfl rfl (by decide) aI3 w (by obtain⟨S,h⟩:=h;exact h.lt.2.2) (fun W hW=>aGl P hP M C hC hc hwt ht hL _ _ W (G.below hW) (h.below hW))
theorem aB8 (P:Mp) (hP:6≤P.B) (M:Mst) (C:Cf) (hC:M.C=some C) (hc:mB C) (hwt:M.wt=true) (hfr:M.fr=true) (x:Out.bH) (hou:M.ou=[x]) (hx0:0≤x.v) (hx1:x.v≤1000000) (T:Int) (ht:eO C (gS M.bk)=(T,true)) (hL:iY (gS M.bk)) (w:World) (G:Gl w) (h:Md P M w):
 Calls prog 9 #[dY P.mb,sO.val] w fun e w'=>e=.returned (.agg #[.int .i64 0,.int .i64 T])∧Md P {M with ou:=[Out.jV x T 0],fr:=false,wt:=false} w'∧aT P.B w w':=
 sJ P _ T 28 15 sO rfl rfl (by decide) aI3 w (by obtain⟨S,h⟩:=h;exact h.lt.2.2) (fun W hW=>aGj P hP M C hC hc hwt hfr x hou hx0 hx1 T ht hL _ _ W (G.below hW) (h.below hW))
end Go.Proofs.YtlibhkkckgkkkaaGreatDoor.Tf
namespace Go.Proofs.YtlibhkkckgkkkaaGreatDoor.Tf
open Go.RowKit Go.Proofs.YtlibhkkckgkkkaaGreatDoor.Mem Go.Proofs.YtlibhkkckgkkkaaGreatDoor.Boo
def iS (s:ByteArray):ByteArray:=⟨#[115,114,99]⟩++s.extract 0 1
def qE (n:Nat):ByteArray:=⟨(Lib.decDigits n).toArray⟩
def iJ (n:Nat):ByteArray:=⟨(Lib.decDigits (n / 100)++[46,UInt8.ofNat (48+n % 100 / 10),UInt8.ofNat (48+n % 100 % 10)]).toArray⟩
def oL (i:Nat) (s:ByteArray) (p:Nat):ByteArray:=iS s++⟨#[32]⟩++qE (i+1)++⟨#[32,109,117,103,32]⟩++s++⟨#[32]⟩++iJ p
theorem nC (p:Nat) (h:p≤1000000000000):iJ p=dR (p:Int):=(iI p h).symm
theorem aHm (n:Nat):qE n=bP (n:Int):=(gN n).symm
theorem aM9 (i:Nat) (s:ByteArray) (p:Nat):oL i s p=bl (jn (iS s).data.toList [(qE (i+1)).data.toList,[109,117,103],s.data.toList,(iJ p).data.toList]):=by
 apply ByteArray.ext
 apply Array.ext'
 rw[eE]
 simp[oL,jn,ByteArray.data_append]
def okS (k:Nat):Bool:=aZ (iS (aK k))&&(iS (aK k)).data.toList.all (fun c=>c !=32)&&(aK k).data.toList.all (fun c=>c !=32)&&decide ((iS (aK k)).size≤12)
theorem uS (k:Nat) (h:k<60):okS k=true:=mQ (f:=okS) (n:=60) (a:=0) (by decide +kernel) k (Nat.zero_le _) (by omega)
theorem aJf {l:List UInt8} (h:∀c∈l,bY c=true):∀c∈l,c≠32:=fun c hc e=>by
 have:=tU (h c hc)
 rw[e] at this
 revert this
 decide
theorem aOl (d:Nat) (h:d<10):UInt8.ofNat (48+d)≠32:=by
 have H:∀m:Fin 10,UInt8.ofNat (48+m.val)≠32:=by decide
 exact H ⟨d,h⟩
theorem vA (i k p:Nat) (hi:i≤100) (hk:k<60) (p1:1≤p) (p2:p≤3000) (w:World) (G:Gl w):
 Calls Tryz.prog 64 #[.string (oL i (aK k) p)] w (Ret (.tuple #[.agg #[.string (iS (aK k)),.int .i64 ((i+1:Nat):Int),.string aX,.string (aK k),.int .i64 (p:Int)],.int .i64 0,.int .i64 0]) w):=by
 have ho:=uS k hk
 unfold okS at ho
 simp only[Bool.and_eq_true,List.all_eq_true,bne_iff_ne,decide_eq_true_eq] at ho
 obtain⟨⟨⟨o1,o2⟩,o3⟩,o4⟩:=ho
 have hsl:=kX k hk
 have hnl:(qE (i+1)).size≤21:=oQ (i+1) (by omega)
 have hpl:(iJ p).size≤24:=by rw[nC p (by omega)];exact nU p (by omega)
 have hbl:∀y∈[(iS (aK k)).data.toList,(qE (i+1)).data.toList,[109,117,103],(aK k).data.toList,(iJ p).data.toList],∀c∈y,c≠32:=by
  intro y hy
  simp only[List.mem_cons,List.not_mem_nil,or_false] at hy
  rcases hy with rfl|rfl|rfl|rfl|rfl
  ·exact o2
  ·exact aJf (fun c hc=>gR (i+1) c (by simpa[qE] using hc))
  ·decide
  ·exact o3
  ·intro c hc
   simp only[iJ,List.mem_append,List.mem_cons,List.not_mem_nil,or_false] at hc
   rcases hc with hc|rfl|rfl|rfl
   ·exact aJf (fun c hc=>gR (p / 100) c hc) c hc
   ·decide
   ·exact aOl _ (by omega)
   ·exact aOl _ (by omega)
 obtain⟨hsp,hct⟩:=vT [(qE (i+1)).data.toList,[109,117,103],(aK k).data.toList,(iJ p).data.toList] (iS (aK k)).data.toList hbl
 rw[←aM9] at hsp hct
 have hpp:eF (iJ p)=((p:Int),0):=by rw[nC p (by omega)];exact pW p (by omega)
 refine tV (oL i (aK k) p) (iS (aK k)) (qE (i+1)) aX (aK k) (iJ p) ?_ ?_ hct (by omega) (by omega) (by decide) (by omega) (by omega) o1 (by decide +kernel) (fF k hk) _ ?_ (by omega) (by omega) _ hpp (by omega) (by omega) ?_ w G
 ·have e3:(ByteArray.mk #[32]).size=1:=rfl
  have e5:(ByteArray.mk #[32,109,117,103,32]).size=5:=rfl
  unfold oL
  simp only[ByteArray.size_append]
  omega
 ·rw[hct]
  exact hsp
 ·rw[aHm,gN]
  exact sN (i+1) _ (by omega) (by omega)
 ·intro e
  rw[e] at hpp
  have:eF ⟨#[103,111,110,101]⟩=(0,20):=by decide +kernel
  rw[this] at hpp
  have:=congrArg Prod.snd hpp
  simp at this
theorem wP {α:Type} [DecidableEq α]:∀(l S:List α),l.Nodup→(∀x∈l,x∈S)→l.length≤S.length
 |[],S,_,_=>Nat.zero_le _
 |a::l,S,hn,hs=>by
  rw[List.nodup_cons] at hn
  have ha:=hs a (by simp)
  have:=wP l (S.erase a) hn.2 (fun x hx=>(List.mem_erase_of_ne (fun e:x=a=>hn.1 (e▸hx))).2 (hs x (by simp[hx])))
  rw[List.length_erase_of_mem ha] at this
  have:=List.length_pos_of_mem ha
  simp
  omega
theorem aRm {α:Type} {p:α→Bool} {xs:List α} (h:fI p xs=-1):∀x∈xs,p x=false:=by
 unfold fI at h
 cases hf:xs.findIdx? p with
 |none=>exact fun x hx=>by simpa using List.findIdx?_eq_none_iff.1 hf x hx
 |some i=>
  rw[hf] at h
  dsimp only at h
  omega
def S5:List ByteArray:=[iS (aK 0),iS (aK 1),iS (aK 2),iS (aK 4),iS (aK 5)]
theorem aK7 (k:Nat) (h:k<60):iS (aK k)∈S5:=by
 have:=mQ (f:=fun k=>S5.any (fun s=>eqS s (iS (aK k)))) (n:=60) (a:=0) (by decide +kernel) k (Nat.zero_le _) (by omega)
 obtain⟨s,hs,he⟩:=List.any_eq_true.1 this
 exact kB he▸hs
structure uF (i:Nat) (se:List fA):Prop where
 all:∀x∈se,x.s∈S5∧1≤x.n∧x.n≤i
 nd:(se.map (·.s)).Nodup
theorem uF.len {i:Nat} {se:List fA} (h:uF i se):se.length≤5:=by
 have:=@wP _ (fun a b=>Classical.propDecidable (a=b)) (se.map (·.s)) S5 h.nd (fun x hx=>by
  obtain⟨y,hy,rfl⟩:=List.mem_map.1 hx
  exact(h.all y hy).1)
 simpa[S5] using this
theorem uF.put {i:Nat} {se:List fA} {s:ByteArray} (h:uF i se) (hs:s∈S5):uF (i+1) (cY (soN s) ⟨s,((i+1:Nat):Int)⟩ 8 se):=by
 have hl:=h.len
 unfold cY
 by_cases hf:fI (soN s) se=-1
 ·rw[if_pos hf,if_neg (by omega)]
  refine⟨fun x hx=>?_,?_⟩
  ·rcases List.mem_append.1 hx with hx|hx
   ·obtain⟨h1,h2,h3⟩:=h.all x hx
    exact⟨h1,h2,by omega⟩
   ·obtain rfl:=List.mem_singleton.1 hx
    exact⟨hs,by dsimp only;omega,by dsimp only;omega⟩
  ·rw[List.map_append,List.nodup_append]
   refine⟨h.nd,by simp,fun a ha b hb=>?_⟩
   obtain⟨x,hx,rfl⟩:=List.mem_map.1 ha
   simp at hb
   subst hb
   exact aI1 (aRm hf x hx)
 ·obtain⟨k,x,h1,h2,h3⟩:=sI hf
  have hxs:x.s=s:=kB h3
  obtain⟨hk,rfl⟩:=List.getElem?_eq_some_iff.1 h2
  rw[if_neg hf,h1,Int.toNat_natCast]
  refine⟨fun y hy=>?_,?_⟩
  ·rcases List.mem_or_eq_of_mem_set hy with hy|rfl
   ·obtain⟨h4,h5,h6⟩:=h.all y hy
    exact⟨h4,h5,by omega⟩
   ·exact⟨hs,by dsimp only;omega,by dsimp only;omega⟩
  ·have e:(se.set k ⟨s,((i+1:Nat):Int)⟩).map (·.s)=se.map (·.s):=by
    rw[List.map_set]
    apply List.ext_getElem?
    intro j
    rw[List.getElem?_set]
    split
    ·subst k
     simp[hk,←hxs]
    ·rfl
   rw[e]
   exact h.nd
def kV (o:aW):eG:=⟨o.s,o.p,0⟩
def qC (L:List aW):Nat→List fA
 |0=>[]
 |i+1=>match L[i]? with
  |some o=>cY (soN (iS o.s)) ⟨iS o.s,((i+1:Nat):Int)⟩ 8 (qC L i)
  |none=>qC L i
theorem vX {L:List aW} (h:iG L):∀i,i≤L.length→uF i (qC L i)
 |0,_=>⟨(fun x hx=>by cases hx),(by simp[qC])⟩
 |i+1,hi=>by
  have ih:=vX h i (by omega)
  have hx:L[i]?=some L[i]:=gE (by omega)
  obtain⟨⟨k,hk,e⟩,_⟩:=h.sel L[i] (List.getElem_mem _)
  rw[qC,hx]
  dsimp only
  rw[e]
  exact ih.put (aK7 k hk)
def stM (C:Cf) (L:List aW) (i:Nat):Mst:={sV with C:=some C,bk:=(L.take i).map kV,se:=qC L i,wt:=true}
theorem aR9 {L:List aW} (h:iG L) {i:Nat} {o:aW} (hx:L[i]?=some o):fI (soS o.s) ((L.take i).map kV)=-1:=by
 refine jW (fun j y _ hy=>?_)
 obtain⟨x,hx',rfl⟩:=List.mem_map.1 (List.mem_of_getElem? hy)
 have:=tF h.nd hx x hx'
 cases he:eqS x.s o.s with
 |true=>exact absurd (kB he) this
 |false=>exact he
theorem aEr (P:Mp) (C:Cf) (L:List aW) (h:iG L) (hl:L.length≤7) (i:Nat) (o:aW) (hx:L[i]?=some o) (w:World) (G:Gl w) (hm:Md P (stM C L i) w):
 Calls Tryz.prog 9 #[dY P.mb,(vF (oL i o.s o.p.toNat)).val] w fun e w'=>e=.returned (.agg #[.int .i64 0,.int .i64 0])∧Md P (stM C L (i+1)) w'∧aT P.B w w':=by
 have hi:i<L.length:=(List.getElem?_eq_some_iff.1 hx).1
 obtain⟨⟨k,hk,e⟩,p1,p2⟩:=h.sel o (List.mem_of_getElem? hx)
 have hinv:=vX h i (by omega)
 have hsl:=hinv.len
 have hbn:=aR9 h hx
 have hbl:((L.take i).map kV).length≤6:=by simp;omega
 obtain⟨os,op⟩:=o
 dsimp only at e p1 p2 hbn ⊢
 obtain⟨p,rfl⟩:=Int.eq_ofNat_of_zero_le (by omega:0≤op)
 subst e
 have ho:=uS k hk
 unfold okS at ho
 simp only[Bool.and_eq_true,decide_eq_true_eq] at ho
 obtain⟨⟨⟨o1,_⟩,_⟩,o4⟩:=ho
 have hse:qC L (i+1)=cY (soN (iS (aK k))) ⟨iS (aK k),((i+1:Nat):Int)⟩ 8 (qC L i):=by rw[qC,hx]
 have hbk:(L.take (i+1)).map kV=cY (soS (aK k)) ⟨aK k,(p:Int),0⟩ 8 ((L.take i).map kV):=by
  unfold cY
  rw[if_pos hbn,if_neg (by omega),List.take_add_one,hx,List.map_append]
  rfl
 have:=aB9 P (stM C L i) (oL i (aK k) p) (iS (aK k)) (aK k) ((i+1:Nat):Int) (p:Int) (fun W hW=>vA i k p (by omega) hk (by omega) (by omega) W hW) (by omega) (by have:=kX k hk;omega) (show(qC L i).length≤8 by omega) (show((L.take i).map kV).length≤8 by omega)
  (by unfold okF;rw[o1];simp;omega)
  (by
    by_cases hf:fI (soN (iS (aK k))) (qC L i)=-1
    ·exact .inl hf
    ·obtain⟨j,x,h1,h2,h3⟩:=sI hf
     have:=(hinv.all x (List.mem_of_getElem? h2)).2.2
     exact .inr ⟨j,x,h1,h2,by omega⟩)
  (by
    show gX (soN (iS (aK k))) 8 (qC L i)=true
    unfold gX
    split
    ·exact decide_eq_true (by omega)
    ·rfl)
  (by unfold okP;rw[fF k hk];simp;omega) (by omega)
  (by
    show gX (soS (aK k)) 8 ((L.take i).map kV)=true
    unfold gX
    rw[if_pos hbn]
    exact decide_eq_true (by omega)) w G hm
 refine this.mono ?_
 rintro e w' ⟨h1,h2,h3⟩
 refine⟨h1,?_,h3⟩
 have:stM C L (i+1)={stM C L i with bk:=cY (soS (aK k)) ⟨aK k,(p:Int),0⟩ 8 (stM C L i).bk,se:=cY (soN (iS (aK k))) ⟨iS (aK k),((i+1:Nat):Int)⟩ 8 (stM C L i).se,wt:=true}:=by
  unfold stM
  rw[hse,hbk]
 rw[this]
 exact h2
end Go.Proofs.YtlibhkkckgkkkaaGreatDoor.Tf
namespace Go.Proofs.YtlibhkkckgkkkaaGreatDoor.Tf
open Go.RowKit Go.Proofs.YtlibhkkckgkkkaaGreatDoor.Mem Go.Proofs.YtlibhkkckgkkkaaGreatDoor.Boo Go.Proofs.Tryz
theorem iG.ok {L:List aW} (h:iG L):iY L:=⟨h.len,(fun o ho=>by
 obtain⟨⟨k,hk,e⟩,_⟩:=h.sel o ho
 rw[e]
 exact fF k hk),(fun o ho=>by have:=(h.sel o ho).2;omega),h.nd⟩
theorem iG.sub {L M:List aW} (h:iG L) (hs:M.Sublist L):iG M:=⟨Nat.le_trans hs.length_le h.len,(fun x hx=>h.sel x (hs.subset hx)),h.nd.sublist (hs.map _)⟩
theorem iG.perm {L M:List aW} (h:iG L) (hp:L.Perm M):iG M:=⟨by rw[←hp.length_eq];exact h.len,(fun x hx=>h.sel x (hp.mem_iff.2 hx)),(hp.map _).nodup_iff.1 h.nd⟩
theorem zK (L:List aW):gS (L.map kV)=L:=by
 unfold gS
 rw[List.map_map]
 exact List.map_id L
theorem aFu {C:Cf} {L:List aW} (h:(eO C L).2=false):(eO C L).1=0:=by
 unfold eO at h ⊢
 dsimp only at h ⊢
 split
 ·rw[if_pos (by assumption)] at h;cases h
 ·rfl
theorem aGk (P:Mp) (hP:6≤P.B) (C:Cf) (hc:mB C) (L:List aW) (h:iG L) (w:World) (G:Gl w) (hm:Md P (stM C L L.length) w):
 Calls prog 9 #[dY P.mb,sO.val] w fun e w'=>e=.returned (.agg #[.int .i64 0,.int .i64 (eO C L).1])∧Below P.B w w':=by
 have hb:gS (stM C L L.length).bk=L:=by
  show gS ((L.take L.length).map kV)=L
  rw[List.take_length]
  exact zK L
 cases hT:(eO C L).2 with
 |false=>
  have h0:=aFu hT
  rw[h0]
  refine(aNn P hP (stM C L L.length) C rfl hc rfl ?_ ?_ w G hm).mono ?_
  ·rw[hb];exact Prod.ext h0 hT
  ·rw[hb];exact h.ok
  ·rintro e w' ⟨h1,_,h3⟩
   exact⟨h1,h3.below⟩
 |true=>
  refine(aB8 P hP (stM C L L.length) C rfl hc rfl rfl ⟨0,0,0,0,0⟩ rfl (by decide) (by decide) (eO C L).1 ?_ ?_ w G hm).mono ?_
  ·rw[hb];exact Prod.ext rfl hT
  ·rw[hb];exact h.ok
  ·rintro e w' ⟨h1,_,h3⟩
   exact⟨h1,h3.below⟩
theorem aJm (A:Option Addr) (m c k:Nat) (hk:k≤c) (W:World):(Instr.slice 29 (.slice A m c) none (some (.int .i64 (k:Int))) none).run prog W=.ok (.slice A k c) W:=by
 have hs:(sizeOf (prog.elem 29)).run prog W=.ok 2 W:=by kernel_rfl
 have:=run_slice_h (P:=prog) W 29 A m c (by kernel_rfl) .i64 k (by omega) (by omega)
 rw[this,hs]
 cases A <;> simp[Result.andThen,sliced,Addr.add]
theorem aJn {A:Option Addr} {c:Nat} {M:List aW} {w:World} (h:dF.At w A c M) (k:Nat) (hk:k≤M.length):
 ∃A2,(∀W,(Instr.slice 29 (.slice A M.length c) (some (.int .i64 (k:Int))) none none).run prog W=.ok (.slice A2 (M.length-k) (c-k)) W)∧dF.At w A2 (c-k) (M.drop k):=by
 have hs:∀W,(sizeOf (prog.elem 29)).run prog W=.ok 2 W:=fun W=>by kernel_rfl
 refine⟨if c=k then A else A.map (·.add (k * 2)),fun W=>?_,?_⟩
 ·have:=run_slice_l (P:=prog) W 29 A M.length c (by kernel_rfl) .i64 k (by omega) (by omega)
  rw[this,hs]
  simp[Result.andThen,sliced]
 ·by_cases h0:0<M.length
  ·obtain⟨b,off,rfl,hlt,hc⟩:=h.cell h0
   refine h.drop k hk _ ?_
   show _=some (if c=k then(⟨b,off,none⟩:Addr) else⟨b,off+k * 2,none⟩)
   split <;> simp[Addr.add]
  ·obtain rfl:M=[]:=List.eq_nil_of_length_eq_zero (by omega)
   obtain rfl:k=0:=by simpa using hk
   refine⟨Nat.zero_le _,by have:=h.max;omega,fun e=>?_,fun h=>absurd h (Nat.lt_irrefl 0)⟩
   split at e
   ·omega
   ·cases A with
    |none=>have:=h.nil rfl;omega
    |some a=>cases e
theorem aRn (w:World) (a b:Int):(Op.equalIn 10000 38 (.agg #[.int .i64 a,.int .i64 b]) (.agg #[.int .i64 a,.int .i64 b])).run prog w=.ok true w:=by
 have hS:prog.underlying 38=some (.struct (prog.fieldsOf 38)):=by kernel_rfl
 have hp:prog.stoodInHeld 38=false:=by kernel_rfl
 rw[show(10000:Nat)=9999+1 from rfl,run_equalIn_agg w 9999 38 _ _ hS hp]
 simp only[Program.fieldsOf,underlying38]
 go_simp
def dA:En (Int×Int):=⟨fun x=>[.int .i64 x.1,.int .i64 x.2],2,by omega,fun _=>rfl,fun x u hu=>by simp at hu;rcases hu with rfl|rfl <;> rfl⟩
theorem zO {P:Mp} {M:Mst} {w W:World} {ab:Nat} {cs:Array Value} (h:Md P M W) (hb:Below w.heap.size w W) (hr:W.heap[ab]?=some (.cells cs 38 (0,0))) (hcs:cs.size=2) (ha:w.heap.size≤ab) (u v:Value):
 Md P M ((W.setCell ⟨ab,0,none⟩ u).setCell ⟨ab,1,none⟩ v)∧Below w.heap.size w ((W.setCell ⟨ab,0,none⟩ u).setCell ⟨ab,1,none⟩ v)∧((W.setCell ⟨ab,0,none⟩ u).setCell ⟨ab,1,none⟩ v).heap[ab]?=some (.cells #[u,v] 38 (0,0)):=by
 have h1:=aE W ab 0 cs 38 u hr
 have h2:=aE _ ab 1 _ 38 v h1
 refine⟨(h.ker (Ker.set (ts:=[38]) hr (by decide) 0 u) (by decide)).ker (Ker.set (ts:=[38]) h1 (by decide) 1 v) (by decide),aF (p:=⟨ab,1,none⟩) (aF (p:=⟨ab,0,none⟩) hb ha _) ha _,?_⟩
 rw[h2]
 congr 2
 obtain⟨l⟩:=cs
 match l,hcs with
 |[x,y],_=>rfl
end Go.Proofs.YtlibhkkckgkkkaaGreatDoor.Tf
