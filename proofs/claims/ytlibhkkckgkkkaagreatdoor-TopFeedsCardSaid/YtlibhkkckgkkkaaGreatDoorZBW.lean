/- Part of the proof of TopFeeds: MdlR AwS AwT AwU AxA AxB. -/
import Derived.Test.YtlibhkkckgkkkaaGreatDoorZBO
import Derived.Test.YtlibhkkckgkkkaaGreatDoorZBQ
import Derived.Test.YtlibhkkckgkkkaaGreatDoorZBS
import Derived.Test.YtlibhkkckgkkkaaGreatDoorZBU
set_option maxHeartbeats 8000000
set_option maxRecDepth 100000
namespace Go.Proofs.YtlibhkkckgkkkaaGreatDoor.Tf
open Go.RowKit Go.Proofs.YtlibhkkckgkkkaaGreatDoor.Mem Go.Proofs.YtlibhkkckgkkkaaGreatDoor.Boo
theorem aBb (W:World) (p:Addr):W.drew.cell? p=W.cell? p:=rfl
theorem aKx (P:Mp) (M:Mst) (ver pri:Int) (ox:Out.bH) (hou:M.ou=[ox]) (hsh:M.sh=[(ver,pri)]) (w:World) (h:Md P M w):
 Calls Tryz.prog 201 #[.pointer (some ⟨P.mb,0,none⟩),.string aX] w fun e w'=>∃l u v:Int,e=.returned (.tuple #[.agg #[.int .i64 pri,.int .i64 ver,.int .i64 l,.int .i64 u,.int .i64 v],.bool true])∧Below w.heap.size w w':=by
 obtain⟨S,h⟩:=h
 have HPL:Hid (∀W,Below w.heap.size w W→Calls Tryz.prog 61 #[.pointer (some ⟨P.mb,0,none⟩),.string aX] W (Ret (.int .i64 0) W)):=Hd (fun W hW=>rX P M S W (h.below hW))
 obtain⟨sc,NA,nc,OA,oc,HA,hc,MA,mc,⟨_,c1,_,_,c4,c5,_⟩,⟨_,_,e3,_⟩,⟨_,_,lm,ls⟩,⟨_,oO,oH,_⟩,_,hsc⟩:=h.cells
 rw[hou] at c4 oO
 rw[hsh] at c5 oH
 change w.cell? ⟨P.mb,4,none⟩=some (.slice OA 1 oc) at c4
 change w.cell? ⟨P.mb,5,none⟩=some (.slice HA 1 hc) at c5
 obtain⟨g,o,rfl,gl,hg⟩:=oO.at_.get 0 ox rfl
 obtain⟨rfl,_,_⟩:=lB oO
 obtain⟨f,o2,rfl,fl,hf⟩:=oH.at_.get 0 (ver,pri) rfl
 obtain⟨rfl,_,_⟩:=lB oH
 have g0:w.cell? ⟨g,0,none⟩=some (.int .i64 ox.v):=hg 0 (by decide)
 have g4:w.cell? ⟨g,4,none⟩=some (.int .i64 ox.s):=hg 4 (by decide)
 have f0:w.cell? ⟨f,0,none⟩=some (.int .i64 ver):=hf 0 (by decide)
 have f1:w.cell? ⟨f,1,none⟩=some (.int .i64 pri):=hf 1 (by decide)
 have HM:Hid (P.mb<w.heap.size∧S.sb<w.heap.size∧g<w.heap.size∧f<w.heap.size):=Hd ⟨lm,ls,gl,fl⟩
 generalize ox.v=xv at g0
 generalize ox.s=xs at g4
 generalize S.l=sl at e3
 clear hg hf oO oH hou hsh lm ls gl fl h
 have HC:Hid (w.cell? ⟨P.mb,1,none⟩=some (.slice (some ⟨S.sb,0,none⟩) 1 sc)∧w.cell? ⟨P.mb,4,none⟩=some (.slice (some ⟨g,0,none⟩) 1 oc)∧w.cell? ⟨P.mb,5,none⟩=some (.slice (some ⟨f,0,none⟩) 1 hc)∧w.cell? ⟨S.sb,3,none⟩=some (.int .i64 sl)∧w.cell? ⟨g,0,none⟩=some (.int .i64 xv)∧w.cell? ⟨g,4,none⟩=some (.int .i64 xs)∧w.cell? ⟨f,0,none⟩=some (.int .i64 ver)∧w.cell? ⟨f,1,none⟩=some (.int .i64 pri)):=Hd ⟨c1,c4,c5,e3,g0,g4,f0,f1⟩
 clear c1 c4 c5 e3 g0 g4 f0 f1
 go_enter Tryz.func201,Tryz.ntmps201
 go_upto_region 6 with(go_at_call 61;go_must (refine rC w (HPL.out _ blw) ?_;intro W1 hb HB1;have hr:W1.heap[w.heap.size]?=some (.cells #[.int .i64 0,.int .i64 0,.int .i64 0,.int .i64 0,.int .i64 0] 303 (0,0)):=(hb.block _ (by simp)).trans (aN w _);have HR1:=Hd hr;clear hb hr))
 have d0:=aA HR1.out 0
 have d1:=aA HR1.out 1
 have d2:=aA HR1.out 2
 have d3:=aA HR1.out 3
 have d4:=aA HR1.out 4
 have df:∀o,W1.frozen? ⟨w.heap.size,o,none⟩=false:=fun o=>fH HR1.out o
 have dl:=(gLt HR1.out)
 obtain⟨c1,c4,c5,e3,g0,g4,f0,f1⟩:=HC.out
 have s0:=aC HB1.out c1
 have s1:=aC HB1.out c4
 have s2:=aC HB1.out c5
 have s3:=aC HB1.out e3
 have s4:=aC HB1.out g0
 have s5:=aC HB1.out g4
 have s6:=aC HB1.out f0
 have s7:=aC HB1.out f1
 have n1:P.mb≠w.heap.size:=by have:=HM.out.1;omega
 have n2:S.sb≠w.heap.size:=by have:=HM.out.2.1;omega
 have n3:g≠w.heap.size:=by have:=HM.out.2.2.1;omega
 have n4:f≠w.heap.size:=by have:=HM.out.2.2.2;omega
 clear c1 c4 c5 e3 g0 g4 f0 f1
 go_region_held3 (fun W'=>W'.cell? ⟨P.mb,1,none⟩=some (.slice (some ⟨S.sb,0,none⟩) 1 sc)∧W'.cell? ⟨P.mb,4,none⟩=some (.slice (some ⟨g,0,none⟩) 1 oc)∧W'.cell? ⟨P.mb,5,none⟩=some (.slice (some ⟨f,0,none⟩) 1 hc)∧W'.cell? ⟨S.sb,3,none⟩=some (.int .i64 sl)∧W'.cell? ⟨g,0,none⟩=some (.int .i64 xv)∧W'.cell? ⟨g,4,none⟩=some (.int .i64 xs)∧W'.cell? ⟨f,0,none⟩=some (.int .i64 ver)∧W'.cell? ⟨f,1,none⟩=some (.int .i64 pri)) (first|(with_reducible exact⟨eK s0 n1 _ _ _ _ _,eK s1 n1 _ _ _ _ _,eK s2 n1 _ _ _ _ _,eK s3 n2 _ _ _ _ _,eK s4 n3 _ _ _ _ _,eK s5 n3 _ _ _ _ _,eK s6 n4 _ _ _ _ _,eK s7 n4 _ _ _ _ _⟩)|(simp only[aBb];with_reducible exact⟨eK s0 n1 _ _ _ _ _,eK s1 n1 _ _ _ _ _,eK s2 n1 _ _ _ _ _,eK s3 n2 _ _ _ _ _,eK s4 n3 _ _ _ _ _,eK s5 n3 _ _ _ _ _,eK s6 n4 _ _ _ _ _,eK s7 n4 _ _ _ _ _⟩)|go_keep) (fail)
 all_goals go_wp2_with fail
 all_goals exact bodyPost_ret (v:=.tuple #[.agg #[.int .i64 pri,.int .i64 ver,.int .i64 sl,.int .i64 xv,.int .i64 xs],.bool true]) (by simp[results,Tryz.results201,go_sem,d0,d1,d2,d3,d4]) rfl ⟨sl,xv,xs,rfl,blw⟩
end Go.Proofs.YtlibhkkckgkkkaaGreatDoor.Tf
namespace Go.Proofs.YtlibhkkckgkkkaaGreatDoor.Tf
open Go.RowKit Go.Proofs.YtlibhkkckgkkkaaGreatDoor.Mem Go.Proofs.YtlibhkkckgkkkaaGreatDoor.Boo Go.Proofs.Tryz
theorem aKj {w:World} {A:Option Addr} {c:Nat} {xs:List Cmd} (h:dCm.At w A c xs) (k:Nat) (x:Cmd) (hx:xs[k]?=some x):
 ∃b off,A=some ⟨b,off,none⟩∧b<w.heap.size∧w.cell? ⟨b,off+k * 8,none⟩=some (.int .i64 x.k)∧w.cell? ⟨b,off+k * 8+1,none⟩=some (.string x.s)∧w.cell? ⟨b,off+k * 8+2,none⟩=some (.string x.t)∧w.cell? ⟨b,off+k * 8+3,none⟩=some (.int .i64 x.n0)∧w.cell? ⟨b,off+k * 8+4,none⟩=some (.int .i64 x.n1)∧w.cell? ⟨b,off+k * 8+5,none⟩=some (.int .i64 x.n2)∧w.cell? ⟨b,off+k * 8+6,none⟩=some (.int .i64 x.n3)∧w.cell? ⟨b,off+k * 8+7,none⟩=some (.int .i64 x.n4):=by
 obtain⟨b,off,hA,hlt,hc⟩:=h.get k x hx
 exact⟨b,off,hA,hlt,hc 0 (by decide),hc 1 (by decide),hc 2 (by decide),hc 3 (by decide),hc 4 (by decide),hc 5 (by decide),hc 6 (by decide),hc 7 (by decide)⟩
structure aCk (L:List Cmd) (SP:Nat→Mp→World→Prop):Prop where
 bel:∀i P W W',SP i P W→Below W.heap.size W W'→SP i P W'
 begin:∀(P:Mp) W,W.heap[P.mb]?=some (.cells (qF P.qb (.slice none 0 0) (.slice none 0 0) (.slice none 0 0)) 73 (0,0))→fB P.qb P.hb P.pb P.db P.B [] W→P.B≤P.mb→SP 0 P W
 step:∀i c,L[i]?=some c→∀(P:Mp) W,6≤P.B→P.B≤W.heap.size→Gl W→SP i P W→Calls prog 9 #[.pointer (some ⟨P.mb,0,none⟩),c.val] W fun e w'=>(∃u n,e=.returned (.agg #[.int .i64 u,.int .i64 n]))∧SP (i+1) P w'∧aT P.B W w'
theorem wN (L:List Cmd) (N:Nat) (hN:L.length=N) (K p:ByteArray) (ss hd:Nat→ByteArray) (h:Jour L (K++p) ss hd) (SP:Nat→Mp→World→Prop) (hs:aCk L SP) (w:World) (G:Gl w):
 Calls prog 49 #[.agg #[.string K,.string p]] w fun e w'=>∃(P:Mp) (cb:Nat),e=.returned (.tuple #[.pointer (some ⟨cb,0,none⟩),.int .i64 0])∧w.heap.size≤P.B∧P.B≤cb∧Ctl cb (K++p) ⟨#[]⟩ (.pointer (some ⟨P.mb,0,none⟩)) w'∧SP N P w'∧Below w.heap.size w w':=by
 have HRD:Hid (∀W,Gl W→Calls prog 102 #[.agg #[.string K,.string p]] W fun e w'=>∃A c,e=.returned (.tuple #[.slice A N c,.agg #[.string (K++p),.string ⟨#[]⟩],.int .i64 0])∧dCm.At w' A c L∧Below W.heap.size W w'):=Hd (fun W G=>aGq L N hN K p ss hd h W G)
 have HN100:Hid (N≤100):=Hd (by have:=h.fr.num;omega)
 have HLN:=Hd hN
 have HS:=Hd hs
 have HG:=Hd G
 generalize K++p=Kp at *
 clear h hN hs G
 have hz1:∀W,(zeroValue 208).run prog W=.ok (.agg #[.string ⟨#[]⟩,.string ⟨#[]⟩]) W:=fun W=>by kernel_rfl
 have hz2:∀W,(zeroValue 212).run prog W=.ok (.agg #[.string ⟨#[]⟩,.string ⟨#[]⟩,.pointer none]) W:=fun W=>by kernel_rfl
 go_enter func49,ntmps49
 go_upto_region 4 with(go_at_call 102;go_must (refine(HRD.out _ (HG.out.below blw)).mono ?_;rintro e W1 ⟨A,c,rfl,hat,hb⟩;have HB1:=bst w hb;have HAT1:=Hd hat;clear hat hb))
 obtain⟨W4,hW4⟩:∃W4,W4=W1.alloc (.cells #[.string Kp,.string ⟨#[]⟩] 208):=⟨_,rfl⟩
 have hr4:W4.heap[W1.heap.size]?=some (.cells #[.string Kp,.string ⟨#[]⟩] 208 (0,0)):=by rw[hW4];exact aN W1 _
 have HB4:Hid (Below w.heap.size w W4):=Hd (by rw[hW4];exact aB HB1.out _)
 have HAT:=Hd (HAT1.out.below (show Below W1.heap.size W1 W4 from by rw[hW4];exact aB bR _))
 rw[←hW4]
 clear hW4 HAT1
 have a0:=aA hr4 0
 have a1:=aA hr4 1
 go_cut [7] (fun q wx=>∃(P:Mp) (cb:Nat),q=.pointer (some ⟨cb,0,none⟩)∧P.B=W4.heap.size∧P.B≤cb∧Hid (Ctl cb Kp ⟨#[]⟩ (.pointer (some ⟨P.mb,0,none⟩)) wx)∧Hid (SP 0 P wx)∧Hid (Below W4.heap.size W4 wx))
 case first=>
  go_region_held3 (fun W'=>W'.cell? ⟨W1.heap.size,0,none⟩=some (.string Kp)∧W'.cell? ⟨W1.heap.size,1,none⟩=some (.string ⟨#[]⟩)) (go_keep) (first
   |(go_at_call 8;go_must (refine(aJb _).mono ?_;rintro e W5 ⟨P,hPB,rfl,hmb,hq,hlo,hb⟩;unfold dY;have HB5:=bst W4 hb;have HPB:Hid (P.B=W4.heap.size):=Hd hPB;have HS0:=Hd (HS.out.begin P W5 hmb hq hlo);have s0:=aC HB5.out a0;have s1:=aC HB5.out a1;clear hPB hmb hq hlo hb)))
  all_goals go_wp2_with fail
  all_goals go_meet
  all_goals exact⟨P,W5.heap.size,rfl,HPB.out,by rw[HPB.out];exact HB5.out.size,Hd (aN W5 _),Hd (HS.out.bel _ _ _ _ HS0.out (aB bR _)),Hd (aB HB5.out _)⟩
 case rest=>
 obtain⟨P,cb,rfl,hPB,hcb,HCT,HS0,HB5⟩:=hcut
 obtain⟨W5,hwc⟩:∃w,w=wc:=⟨_,rfl⟩
 subst hwc
 have HPB:=Hd hPB
 have HCB:=Hd hcb
 have HP6:Hid (6≤P.B):=Hd (by rw[hPB];exact Nat.le_trans HG.out.size HB4.out.size)
 clear hr4 a0 a1 hPB hcb
 go_wp2_with fail
 go_loopw [25] (fun iv wr=>∃i:Nat,i≤N∧iv=.int .i64 i∧Hid (SP i P wr)∧Hid (Ctl cb Kp ⟨#[]⟩ (.pointer (some ⟨P.mb,0,none⟩)) wr)∧Hid (Below W4.heap.size W4 wr)) (fun iv _=>N-(intOf iv).toNat)
 case atStart=>exact⟨0,Nat.zero_le _,rfl,HS0,HCT,HB5⟩
 case round=>
  obtain⟨i,him,rfl,HSI,HCI,HB⟩:=hrel
  obtain⟨V,hv⟩:∃x,x=wr:=⟨_,rfl⟩
  subst hv
  by_cases hlt:i<N
  ·have hc:L[i]?=some (L[i]'(by have:=HLN.out;omega)):=gE _
   obtain⟨b,off,rfl,hbl,e0,e1,e2,e3,e4,e5,e6,e7⟩:=aKj (HAT.out.below HB.out) i _ hc
   have HST:=Hd (HS.out.step i _ hc)
   generalize L[i]'(by have:=HLN.out;omega)=cm at e0 e1 e2 e3 e4 e5 e6 e7 HST
   obtain⟨ck,cs,ct,n0,n1,n2,n3,n4⟩:=cm
   unfold Cmd.val at HST
   dsimp only at e0 e1 e2 e3 e4 e5 e6 e7 HST
   have HZI:=Hd (aBf i (by have:=HN100.out;omega))
   have HLT:=Hd hlt
   have zlt:(i:Int)<(N:Int):=by omega
   clear hc hlt
   go_upto_region 8 with(fail)
   obtain⟨W6,hW6⟩:∃W6,W6=V:=⟨_,rfl⟩
   subst hW6
   obtain⟨Y,hY⟩:∃Y,Y=W6.alloc (.cells #[.int .i64 ck,.string cs,.string ct,.int .i64 n0,.int .i64 n1,.int .i64 n2,.int .i64 n3,.int .i64 n4] 42):=⟨_,rfl⟩
   have hr8:Y.heap[W6.heap.size]?=some (.cells #[.int .i64 ck,.string cs,.string ct,.int .i64 n0,.int .i64 n1,.int .i64 n2,.int .i64 n3,.int .i64 n4] 42 (0,0)):=by rw[hY];exact aN W6 _
   have HBY:Hid (Below W6.heap.size W6 Y):=Hd (by rw[hY];exact aB bR _)
   have HCY:Hid (Ctl cb Kp ⟨#[]⟩ (.pointer (some ⟨P.mb,0,none⟩)) Y):=Hd ((HBY.out.block _ (gLt HCI.out)).trans HCI.out)
   have HSY:=Hd (HS.out.bel _ _ _ _ HSI.out HBY.out)
   have HGY:Hid (Gl Y):=Hd ((((HG.out.below HB4.out).below HB.out)).below HBY.out)
   have HR8:=Hd hr8
   rw[←hY]
   have g0:=aA hr8 0
   have g1:=aA hr8 1
   have g2:=aA hr8 2
   have g3:=aA hr8 3
   have g4:=aA hr8 4
   have g5:=aA hr8 5
   have g6:=aA hr8 6
   have g7:=aA hr8 7
   have gl:=(gLt hr8)
   have g8:=aA HCY.out 2
   clear hY hr8 e0 e1 e2 e3 e4 e5 e6 e7
   go_region_held3 (fun W'=>W'.cell? ⟨cb,2,none⟩=some (.pointer (some ⟨P.mb,0,none⟩))∧W'.cell? ⟨W6.heap.size,0,none⟩=some (.int .i64 ck)∧W'.cell? ⟨W6.heap.size,1,none⟩=some (.string cs)∧W'.cell? ⟨W6.heap.size,2,none⟩=some (.string ct)∧W'.cell? ⟨W6.heap.size,3,none⟩=some (.int .i64 n0)∧W'.cell? ⟨W6.heap.size,4,none⟩=some (.int .i64 n1)∧W'.cell? ⟨W6.heap.size,5,none⟩=some (.int .i64 n2)∧W'.cell? ⟨W6.heap.size,6,none⟩=some (.int .i64 n3)∧W'.cell? ⟨W6.heap.size,7,none⟩=some (.int .i64 n4)) (go_keep) (first
    |(go_at_call 9;go_must (refine(HST.out P _ HP6.out (by first|exact(by rw[HPB.out];exact Nat.le_trans HB.out.size HBY.out.size)) (HGY.out.below blw) (HS.out.bel _ _ _ _ HSY.out blw)).mono ?_;rintro e W9 ⟨⟨ru,rn,rfl⟩,hs9,hk9⟩;have HS9:=Hd hs9;have HK9:Hid (aT P.B Y W9):=Hd ((aT.ofB (by rw[HPB.out];exact Nat.le_trans HB.out.size HBY.out.size) blw).trans hk9);have hr:=HK9.out.other _ _ _ _ (by decide) HR8.out;have s0:=aA hr 0;have s1:=aA hr 1;have s2:=aA hr 2;have s3:=aA hr 3;have s4:=aA hr 4;have s5:=aA hr 5;have s6:=aA hr 6;have s7:=aA hr 7;have hrc:=HK9.out.other _ _ _ _ (by decide) HCY.out;have HC9:Hid (Ctl cb Kp ⟨#[]⟩ (.pointer (some ⟨P.mb,0,none⟩)) W9):=Hd hrc;have s8:=aA hrc 2;clear hs9 hk9 hr hrc)))
   all_goals go_wp2_with fail
   all_goals go_roundw
   case rel=>exact⟨i+1,HLT.out,(by first|rw[HZI.out]|rfl|simp),HS9,HC9,Hd ((HB.out.trans (aP HBY.out HB.out.size)).trans (HPB.out▸HK9.out.below))⟩
   case measure=>(try rw[HZI.out]);exact kG HLT.out
  ·obtain rfl:i=N:=by omega
   clear hlt
   go_wp2_with fail
   exact bodyPost_ret (v:=.tuple #[.pointer (some ⟨cb,0,none⟩),.int .i64 0]) (by simp[results,results49,go_sem]) rfl ⟨P,cb,rfl,by rw[HPB.out];exact HB4.out.size,HCB.out,HCI.out,HSI.out,HB4.out.trans (aP HB.out HB4.out.size)⟩
abbrev qK (db cb:Nat) (w:World):Prop:=w.heap[db]?=some (.cells #[.pointer (some ⟨cb,0,none⟩)] 115 (0,0))
theorem dJ.cells {B cb i:Nat} {w w':World} {cs:Array Value} {t:TypeId} (h:dJ B cb w w') (hi:w.heap[i]?=some (.cells cs t (0,0))) (hn:i≠cb) (ht:t∈akL):w'.heap[i]?=some (.cells cs t (0,0)):=h.other i cs t _ hn ht hi
theorem Gl.lk {B cb:Nat} {w w':World} (G:Gl w) (hB:6≤B) (h:dJ B cb w w'):Gl w':=G.low hB h.below
theorem aH2 {W:World} {ab:Nat} {cs:Array Value} (h:W.heap[ab]?=some (.cells cs 38 (0,0))) (u v:Value):Ker [38] W ((W.setCell ⟨ab,0,none⟩ u).setCell ⟨ab,1,none⟩ v):=(Ker.set h (by decide) 0 u).trans (Ker.set (aE W _ 0 _ 38 _ h) (by decide) 1 v)
theorem aNr {B cb db q:Nat} {X Y W3:World} {cs:Array Value} (hk:dJ B cb Y W3) (hY:Below X.heap.size X Y) (hr:X.heap[q]?=some (.cells cs 42 (0,0))) (hd:qK db cb X) (hq:q≠cb) (hdb:db≠cb) (hB:B≤X.heap.size):W3.heap[q]?=some (.cells cs 42 (0,0))∧qK db cb W3∧dJ B cb X W3:=
 ⟨hk.cells ((hY.block _ (gLt hr)).trans hr) hq (by decide),hk.cells ((hY.block _ (gLt hd)).trans hd) hdb (by decide),(dJ.ofB hB hY).trans hk⟩
theorem mL (B mb:Nat) (S1 S2:World→Prop) (st1:∀W W',S1 W→Ker akL W W'→S1 W') (st2:∀W W',S2 W→Ker akL W W'→S2 W') (cb db:Nat) (hcb:B≤cb) (hdb:db≠cb) (hP:6≤B) (K:ByteArray) (k:Int) (s t:ByteArray) (m0 m1 m2 m3 m4 N:Int) (hN:0≤N∧N≤1000000000000) (f:ByteArray) (hs:s.size≤2000∧t.size≤2000) (hf:K.size+f.size≤1000000) (hE:mX k s t m0 m1 m2 m3 m4 f)
 (hdo:∀W,Gl W→S1 W→Calls prog 9 #[.pointer (some ⟨mb,0,none⟩),.agg #[.int .i64 k,.string s,.string t,.int .i64 m0,.int .i64 m1,.int .i64 m2,.int .i64 m3,.int .i64 m4]] W fun e w'=>e=.returned (.agg #[.int .i64 0,.int .i64 N])∧S2 w'∧aT B W w')
 (w:World) (G:Gl w) (hBw:B≤w.heap.size) (h:S1 w) (hc:Ctl cb K ⟨#[]⟩ (.pointer (some ⟨mb,0,none⟩)) w) (hd:qK db cb w):
 Calls prog 105 #[.pointer (some ⟨db,0,none⟩),.agg #[.int .i64 k,.string s,.string t,.int .i64 m0,.int .i64 m1,.int .i64 m2,.int .i64 m3,.int .i64 m4]] w fun e w'=>∃r:ByteArray,e=.returned (.string r)∧(2≤r.size∧r.size≤100)∧qK db cb w'∧Ctl cb (K++f) ⟨#[]⟩ (.pointer (some ⟨mb,0,none⟩)) w'∧S2 w'∧dJ B cb w w':=by
 have HCD:Hid (∀W,Below w.heap.size w W→Calls prog 195 #[.pointer (some ⟨cb,0,none⟩),.agg #[.int .i64 k,.string s,.string t,.int .i64 m0,.int .i64 m1,.int .i64 m2,.int .i64 m3,.int .i64 m4]] W fun e w'=>e=.returned (.agg #[.int .i64 0,.int .i64 N])∧Ctl cb (K++f) ⟨#[]⟩ (.pointer (some ⟨mb,0,none⟩)) w'∧S2 w'∧dJ B cb W w'):=Hd (fun W hW=>aN5 B mb S1 S2 (fun W W' h k=>st1 W W' h (k.mono (by decide))) (fun W W' h k=>st2 W W' h (k.mono (by decide))) cb hcb hP K k s t m0 m1 m2 m3 m4 N f hs hf hE hdo W (G.below hW) (Nat.le_trans hBw hW.size) (st1 _ _ h ((Ker.of (ts:=[]) hW).mono (by simp))) ((hW.block _ (gLt hc)).trans hc))
 have HNU:Hid (∀W,Gl W→Calls prog 196 #[.int .i64 N] W (Ret (.string (bP N)) W)):=Hd (fun W G=>gD N ⟨by omega,by omega⟩ W G)
 have hsz:(bP N).size≤21:=mH N ⟨by omega,by omega⟩
 have hcv:=(gLt hc)
 have hdv:=(gLt hd)
 have HG:=Hd G
 have HBW:=Hd hBw
 have HP:=Hd hP
 have HD:=Hd hd
 have HNC:Hid (w.heap.size≠cb∧db≠cb∧db<w.heap.size∧cb<w.heap.size):=Hd ⟨by omega,hdb,hdv,hcv⟩
 have HS2:=Hd st2
 have hnd:db≠w.heap.size:=by omega
 have d0:=aA hd 0
 generalize K++f=Kf at *
 clear st1 st2 hcb hdb hP hs hf hE hdo G hBw h hc hd hcv
 go_enter func105,ntmps105
 go_upto_region 1 with(fail)
 obtain⟨X,hX⟩:∃X,X=w.alloc (.cells #[.int .i64 k,.string s,.string t,.int .i64 m0,.int .i64 m1,.int .i64 m2,.int .i64 m3,.int .i64 m4] 42):=⟨_,rfl⟩
 have hr:X.heap[w.heap.size]?=some (.cells #[.int .i64 k,.string s,.string t,.int .i64 m0,.int .i64 m1,.int .i64 m2,.int .i64 m3,.int .i64 m4] 42 (0,0)):=by rw[hX];exact aN w _
 have HBX:Hid (Below w.heap.size w X):=Hd (by rw[hX];exact aB bR _)
 have HXS:Hid (X.heap.size=w.heap.size+1):=Hd (by rw[hX];simp)
 rw[←hX]
 clear hX
 have HRX:=Hd hr
 have HDX:Hid (qK db cb X):=Hd ((HBX.out.block _ hdv).trans HD.out)
 have g0:=aA hr 0
 have g1:=aA hr 1
 have g2:=aA hr 2
 have g3:=aA hr 3
 have g4:=aA hr 4
 have g5:=aA hr 5
 have g6:=aA hr 6
 have g7:=aA hr 7
 have gl:=(gLt hr)
 have g8:=aC HBX.out d0
 clear d0 hr
 go_cut [5] (fun q wx=>∃ab,q=.pointer (some ⟨ab,0,none⟩)∧Hid (wx.heap[ab]?=some (.cells #[.int .i64 0,.int .i64 N] 38 (0,0)))∧Hid (qK db cb wx)∧Hid (Ctl cb Kf ⟨#[]⟩ (.pointer (some ⟨mb,0,none⟩)) wx)∧Hid (S2 wx)∧Hid (dJ B cb w wx))
 case first=>
  go_region_held3 (fun W'=>W'.cell? ⟨db,0,none⟩=some (.pointer (some ⟨cb,0,none⟩))∧W'.cell? ⟨w.heap.size,0,none⟩=some (.int .i64 k)∧W'.cell? ⟨w.heap.size,1,none⟩=some (.string s)∧W'.cell? ⟨w.heap.size,2,none⟩=some (.string t)∧W'.cell? ⟨w.heap.size,3,none⟩=some (.int .i64 m0)∧W'.cell? ⟨w.heap.size,4,none⟩=some (.int .i64 m1)∧W'.cell? ⟨w.heap.size,5,none⟩=some (.int .i64 m2)∧W'.cell? ⟨w.heap.size,6,none⟩=some (.int .i64 m3)∧W'.cell? ⟨w.heap.size,7,none⟩=some (.int .i64 m4)) (first|(have hnw:w.heap.size≠X.heap.size:=(by have:=HXS.out;omega);have hnx:db≠X.heap.size:=(by have:=HXS.out;omega);with_reducible exact⟨fD s8 hnx _ _,fD s0 hnw _ _,fD s1 hnw _ _,fD s2 hnw _ _,fD s3 hnw _ _,fD s4 hnw _ _,fD s5 hnw _ _,fD s6 hnw _ _,fD s7 hnw _ _⟩)|go_keep) (first
   |(go_at_call 195;go_must (refine(HCD.out _ (aD HBX.out (by first|exact bR|exact aI bR|exact aB (aI bR) _|exact aI (aB bR _)|exact aI (aB (aI bR) _)|exact aB bR _))).mono ?_;rintro e W3 ⟨rfl,hc3,hs3,hk3⟩;have HC3:=Hd hc3;have HS3:=Hd hs3;have hpre:=aNr hk3 (show Below X.heap.size X _ from by first|exact bR|exact aI bR|exact aB (aI bR) _|exact aI (aB bR _)|exact aI (aB (aI bR) _)|exact aB bR _) HRX.out HDX.out HNC.out.1 HNC.out.2.1 (Nat.le_trans HBW.out HBX.out.size);have HK3:=Hd hpre.2.2;have HD3:=Hd hpre.2.1;have hr:=hpre.1;have s0:=aA hr 0;have s1:=aA hr 1;have s2:=aA hr 2;have s3:=aA hr 3;have s4:=aA hr 4;have s5:=aA hr 5;have s6:=aA hr 6;have s7:=aA hr 7;have s8:=aA HD3.out 0;(first|(have hrr:W3.heap[X.heap.size]?=some (.cells #[.int .i64 0,.int .i64 0] 38 (0,0)):=hk3.cells (aN _ _) (by have:=HXS.out;have:=HNC.out.2.2.2;omega) (by decide);have r0:=aA hrr 0;have r1:=aA hrr 1;have rf:=fun o=>fH hrr o;have rl:=(gLt hrr);have HR3:=Hd hrr;clear hrr)|skip);clear hc3 hs3 hk3 hpre hr)))
  all_goals go_wp2_with fail
  all_goals go_meet
  all_goals first
   |exact⟨X.heap.size,rfl,Hd (aE _ _ 1 _ 38 _ (aE W3 _ 0 _ 38 _ HR3.out)),Hd ((aH2 HR3.out _ _).cells HD3.out (by decide)),Hd ((aH2 HR3.out _ _).cells HC3.out (by decide)),Hd (HS2.out _ _ HS3.out ((aH2 HR3.out _ _).mono (by decide))),Hd (((dJ.ofB HBW.out HBX.out).trans HK3.out).res HBW.out HBX.out.size _ _)⟩
   |exact⟨W3.heap.size,rfl,Hd (aN W3 _),Hd ((Below.heap_alloc W3 _ _ (gLt HD3.out)).trans HD3.out),Hd ((Below.heap_alloc W3 _ _ (gLt HC3.out)).trans HC3.out),Hd (HS2.out _ _ HS3.out ((Ker.of (ts:=[]) (aB bR _)).mono (by simp))),Hd (((dJ.ofB HBW.out HBX.out).trans HK3.out).trans (dJ.ofB (Nat.le_trans HBW.out (Nat.le_trans HBX.out.size HK3.out.size)) (aB bR _)))⟩
 case rest=>
 obtain⟨ab,rfl,HRA,HDA,HCA,HSA,HLA⟩:=hcut
 obtain⟨W5,hwc⟩:∃w,w=wc:=⟨_,rfl⟩
 subst hwc
 clear g0 g1 g2 g3 g4 g5 g6 g7 gl g8
 have a0:=aA HRA.out 0
 have a1:=aA HRA.out 1
 have HG5:Hid (Gl W5):=Hd (HG.out.lk HP.out HLA.out)
 by_cases hn:N=0
 ·subst hn
  go_wp2_with fail
  go_ret
  exact⟨_,rfl,⟨by decide,by decide⟩,HDA.out,HCA.out,HSA.out,HLA.out⟩
 ·have hn1:(N==0)=false:=bN hn
  have hn2:decide (N=0)=false:=decide_eq_false hn
  obtain⟨q,hq⟩:∃q,bP N=q:=⟨_,rfl⟩
  rw[hq] at HNU hsz
  have b1:∀W,(Op.stringOp .add ⟨#[111,107,32]⟩ q).run prog W=.ok (.string (⟨#[111,107,32]⟩++q)) W:=fun W=>run_string_add_sum W _ _ (by have:(ByteArray.mk #[111,107,32]).size=3:=rfl;omega)
  have hz2:((⟨#[111,107,32]⟩:ByteArray)++q).size≤24:=by
   have:(ByteArray.mk #[111,107,32]).size=3:=rfl
   rw[ByteArray.size_append]
   omega
  have b2:∀W,(Op.stringOp .add (⟨#[111,107,32]⟩++q) ⟨#[10]⟩).run prog W=.ok (.string (⟨#[111,107,32]⟩++q++⟨#[10]⟩)) W:=fun W=>run_string_add_sum W _ _ (by have:(ByteArray.mk #[10]).size=1:=rfl;omega)
  have HZ:Hid (2≤((⟨#[111,107,32]⟩:ByteArray)++q++⟨#[10]⟩).size∧((⟨#[111,107,32]⟩:ByteArray)++q++⟨#[10]⟩).size≤100):=Hd (by
   have e1:(ByteArray.mk #[10]).size=1:=rfl
   have e3:(ByteArray.mk #[111,107,32]).size=3:=rfl
   rw[ByteArray.size_append,ByteArray.size_append] at *
   omega)
  clear hz2 hsz hq
  go_wp2_with (go_at_call 196;go_must (refine(HNU.out _ HG5.out).mono ?_;rintro e W6 ⟨rfl,hb⟩;have HB6:Hid (Below W5.heap.size W5 W6):=Hd hb;clear hb))
  go_ret
  exact⟨_,rfl,HZ.out,(HB6.out.block _ (gLt HDA.out)).trans HDA.out,(HB6.out.block _ (gLt HCA.out)).trans HCA.out,HS2.out _ _ HSA.out ((Ker.of (ts:=[]) HB6.out).mono (by simp)),HLA.out.trans (dJ.ofB (Nat.le_trans HBW.out HLA.out.size) HB6.out)⟩
theorem aAs (cb mb:Nat) (K p:ByteArray) (w:World) (h:Ctl cb K p (.pointer (some ⟨mb,0,none⟩)) w):Calls prog 200 #[.pointer (some ⟨cb,0,none⟩)] w (Ret (.pointer (some ⟨mb,0,none⟩)) w):=by
 have c2:=aA h 2
 clear h
 go_enter func200,ntmps200
 go_wp2_with fail
 go_ret
 exact⟨rfl,bR⟩
theorem aE9 (cb:Nat) (K p:ByteArray) (mv:Value) (w:World) (h:Ctl cb K p mv w):Calls prog 203 #[.pointer (some ⟨cb,0,none⟩)] w (Ret (.agg #[.string K,.string p]) w):=by
 have c0:=aA h 0
 have c1:=aA h 1
 have hl:=(gLt h)
 have hne:cb≠w.heap.size:=by omega
 clear h
 go_enter func203,ntmps203
 go_wp2_with fail
 exact bodyPost_ret (v:=.agg #[.string K,.string p]) (by simp[results,results203,go_sem, *]) rfl ⟨rfl,blw⟩
def gB:ByteArray:=⟨#[115,104,111,119,110,32,52,46,53,48,32,49,10]⟩
theorem aE2 (P:Mp) (M:Mst) (ox:Out.bH) (hou:M.ou=[ox]) (hsh:M.sh=[(1,450)]) (cb db:Nat) (K p:ByteArray) (w:World) (G:Gl w) (h:Md P M w) (hc:Ctl cb K p (.pointer (some ⟨P.mb,0,none⟩)) w) (hd:qK db cb w):
 Calls prog 109 #[.pointer (some ⟨db,0,none⟩),.string aX] w (Ret (.string gB) w):=by
 have HMO:Hid (∀W,Below w.heap.size w W→Calls prog 200 #[.pointer (some ⟨cb,0,none⟩)] W (Ret (.pointer (some ⟨P.mb,0,none⟩)) W)):=Hd (fun W hW=>aAs cb P.mb K p W ((hW.block _ (gLt hc)).trans hc))
 have HVI:Hid (∀W,Below w.heap.size w W→Calls prog 201 #[.pointer (some ⟨P.mb,0,none⟩),.string aX] W fun e w'=>∃l u v:Int,e=.returned (.tuple #[.agg #[.int .i64 450,.int .i64 1,.int .i64 l,.int .i64 u,.int .i64 v],.bool true])∧Below W.heap.size W w'):=Hd (fun W hW=>aKx P M 1 450 ox hou hsh W (h.below hW))
 have HTX:Hid (∀W,Gl W→Calls prog 202 #[.int .i64 450] W (Ret (.string ⟨#[52,46,53,48]⟩) W)):=Hd (fun W G=>by
  have:=nV 450 W G
  rwa [show dR 450=⟨#[52,46,53,48]⟩ from by decide +kernel] at this)
 have HNU:Hid (∀W,Gl W→Calls prog 196 #[.int .i64 1] W (Ret (.string ⟨#[49]⟩) W)):=Hd (fun W G=>by
  have:=gD 1 (by decide) W G
  rwa [show(⟨(Lib.itoa 1).toArray⟩:ByteArray)=⟨#[49]⟩ from by decide +kernel] at this)
 have d0:=aA hd 0
 have HG:=Hd G
 clear h hc hd G hou hsh
 go_enter func109,ntmps109
 go_upto_region 4 with(first
  |(go_at_call 200;go_must (refine rB w (HMO.out _ blw) ?_;intro W1 HB1))
  |(go_at_call 201;go_must (refine(HVI.out _ blw).mono ?_;rintro e W2 ⟨l,u,v,rfl,hb⟩;have HB2:=bst w hb;clear hb)))
 obtain⟨X,hX⟩:∃X,X=W2.alloc (.cells #[.int .i64 450,.int .i64 1,.int .i64 l,.int .i64 u,.int .i64 v] 303):=⟨_,rfl⟩
 have hr:X.heap[W2.heap.size]?=some (.cells #[.int .i64 450,.int .i64 1,.int .i64 l,.int .i64 u,.int .i64 v] 303 (0,0)):=by rw[hX];exact aN W2 _
 have HBX:Hid (Below w.heap.size w X):=Hd (by rw[hX];exact aB HB2.out _)
 rw[←hX]
 clear hX
 have g0:=aA hr 0
 have g1:=aA hr 1
 have q0:=cell_regrown g0
 have q1:=cell_regrown g1
 have cT:∀d os,Calls prog 202 #[.int .i64 450] (Sort.grow (redrawn X d) os) fun e w''=>e=.returned (.string ⟨#[52,46,53,48]⟩)∧∃p:Regrown,w''=Sort.grow (redrawn X p.d) p.os:=fun d os=>Calls.regrown_of (HTX.out _ ((HG.out.below HBX.out).below (below_regrown X d os)))
 have cN:∀d os,Calls prog 196 #[.int .i64 1] (Sort.grow (redrawn X d) os) fun e w''=>e=.returned (.string ⟨#[49]⟩)∧∃p:Regrown,w''=Sort.grow (redrawn X p.d) p.os:=fun d os=>Calls.regrown_of (HNU.out _ ((HG.out.below HBX.out).below (below_regrown X d os)))
 have a1:∀W,(Op.stringOp .add ⟨#[115,104,111,119,110,32]⟩ ⟨#[52,46,53,48]⟩).run prog W=.ok (.string ⟨#[115,104,111,119,110,32,52,46,53,48]⟩) W:=fun W=>run_string_add_sum W _ _ (by decide)
 have a2:∀W,(Op.stringOp .add ⟨#[115,104,111,119,110,32,52,46,53,48]⟩ ⟨#[32]⟩).run prog W=.ok (.string ⟨#[115,104,111,119,110,32,52,46,53,48,32]⟩) W:=fun W=>run_string_add_sum W _ _ (by decide)
 have a3:∀W,(Op.stringOp .add ⟨#[115,104,111,119,110,32,52,46,53,48,32]⟩ ⟨#[49]⟩).run prog W=.ok (.string ⟨#[115,104,111,119,110,32,52,46,53,48,32,49]⟩) W:=fun W=>run_string_add_sum W _ _ (by decide)
 have a4:∀W,(Op.stringOp .add ⟨#[115,104,111,119,110,32,52,46,53,48,32,49]⟩ ⟨#[10]⟩).run prog W=.ok (.string gB) W:=fun W=>run_string_add_sum W _ _ (by decide)
 clear g0 g1 hr
 refine wp_region_quiet_below (by kernel_rfl) (by kernel_rfl) ?_
 repeat(go_big_quiet_step (first|(with_reducible exact cT _ _)|(with_reducible exact cN _ _)))
 refine wpQuiet_nil ?_
 intro _ hw'
 obtain⟨⟨dq,osq⟩,hw''⟩:=hw'
 subst hw''
 go_wp2_with fail
 exact bodyPost_ret (v:=.string gB) (by simp[results,results109,go_sem]) rfl ⟨rfl,aD HBX.out (below_regrown X dq osq)⟩
theorem aE3 (L:List Cmd) (N:Nat) (hN:L.length=N) (K:ByteArray) (ss hd:Nat→ByteArray) (h:Jour L K ss hd) (SP:Nat→Mp→World→Prop) (hs:aCk L SP) (hst:∀i P W W',SP i P W→Ker akL W W'→SP i P W') (cb db:Nat) (mv:Value) (h6:6≤db) (w:World) (G:Gl w) (hc:Ctl cb K ⟨#[]⟩ mv w) (hdk:qK db cb w):
 Calls prog 110 #[.pointer (some ⟨db,0,none⟩)] w fun e w'=>∃(r:ByteArray) (P:Mp) (cb':Nat),e=.returned (.string r)∧(2≤r.size∧r.size≤100)∧qK db cb' w'∧Ctl cb' K ⟨#[]⟩ (.pointer (some ⟨P.mb,0,none⟩)) w'∧SP N P w'∧w.heap.size≤P.B∧P.B≤cb'∧Fr [db] w w':=by
 have hKe:K++⟨#[]⟩=K:=by apply ByteArray.ext;simp
 have hKs:K.size≤100000:=by have:=h.fr.top;rw[h.st] at this;exact this
 have HDI:Hid (∀cb mv W,Ctl cb K ⟨#[]⟩ mv W→Calls prog 203 #[.pointer (some ⟨cb,0,none⟩)] W (Ret (.agg #[.string K,.string ⟨#[]⟩]) W)):=Hd (fun cb mv W hW=>aE9 cb K ⟨#[]⟩ mv W hW)
 have HOP:Hid (∀W,Gl W→Calls prog 49 #[.agg #[.string K,.string ⟨#[]⟩]] W fun e w'=>∃(P:Mp) (cb:Nat),e=.returned (.tuple #[.pointer (some ⟨cb,0,none⟩),.int .i64 0])∧W.heap.size≤P.B∧P.B≤cb∧Ctl cb K ⟨#[]⟩ (.pointer (some ⟨P.mb,0,none⟩)) w'∧SP N P w'∧Below W.heap.size W w'):=Hd (fun W G=>by
  have:=wN L N hN K ⟨#[]⟩ ss hd (by rw[hKe];exact h) SP hs W G
  rw[hKe] at this
  exact this)
 have HAL:Hid (∀W,Calls prog 187 #[.agg #[.string K,.string ⟨#[]⟩]] W (Ret (.string K) W)):=Hd (fun W=>by
  have:=xM K ⟨#[]⟩ (by have:(ByteArray.mk #[]).size=0:=rfl;omega) W
  rwa [hKe] at this)
 obtain⟨q,hq⟩:∃q,bP (K.size:Int)=q:=⟨_,rfl⟩
 have hqs:q.size≤21:=by rw[←hq];exact mH _ ⟨by omega,by omega⟩
 have HNU:Hid (∀W,Gl W→Calls prog 196 #[.int .i64 (K.size:Int)] W (Ret (.string q) W)):=Hd (fun W G=>by rw[←hq];exact gD (K.size:Int) ⟨by omega,by omega⟩ W G)
 have e5:(ByteArray.mk #[111,112,101,110,32]).size=5:=rfl
 have e1:(ByteArray.mk #[10]).size=1:=rfl
 have hz1:((⟨#[111,112,101,110,32]⟩:ByteArray)++q).size≤26:=by rw[ByteArray.size_append];omega
 have HZ:Hid (2≤((⟨#[111,112,101,110,32]⟩:ByteArray)++q++⟨#[10]⟩).size∧((⟨#[111,112,101,110,32]⟩:ByteArray)++q++⟨#[10]⟩).size≤100):=Hd (by rw[ByteArray.size_append,ByteArray.size_append] at *;omega)
 have b1:∀W,(Op.stringOp .add ⟨#[111,112,101,110,32]⟩ q).run prog W=.ok (.string (⟨#[111,112,101,110,32]⟩++q)) W:=fun W=>run_string_add_sum W _ _ (by omega)
 have b2:∀W,(Op.stringOp .add (⟨#[111,112,101,110,32]⟩++q) ⟨#[10]⟩).run prog W=.ok (.string (⟨#[111,112,101,110,32]⟩++q++⟨#[10]⟩)) W:=fun W=>run_string_add_sum W _ _ (by omega)
 have HST:=Hd hst
 have HC:=Hd hc
 have HD:=Hd hdk
 have HG:=Hd G
 have H6:=Hd h6
 have hdv:=(gLt hdk)
 have HDV:=Hd hdv
 have d0:=aA hdk 0
 clear h hs hst h6 G hc hdk hKe hKs hN hq hqs e5 e1 hz1
 go_enter func110,ntmps110
 go_upto_region 4 with(first
  |(go_at_call 203;go_must (refine(HDI.out _ _ _ HC.out).mono ?_;rintro e W1 ⟨rfl,hb⟩;have HB1:Hid (Below w.heap.size w W1):=Hd hb;clear hb))
  |(go_at_call 49;go_must (refine(HOP.out _ (HG.out.below HB1.out)).mono ?_;rintro e W2 ⟨P,cb2,rfl,hpb,hpc,hct,hsp,hb⟩;have HB2:Hid (Below w.heap.size w W2):=Hd (aD (w:=w) HB1.out hb);have HPB:Hid (w.heap.size≤P.B∧P.B≤cb2):=Hd ⟨Nat.le_trans HB1.out.size hpb,hpc⟩;have HCT:=Hd hct;have HSP:=Hd hsp;have hr2:=(HB2.out.block _ hdv).trans HD.out;have m0:=aA hr2 0;have mf:∀o,W2.frozen? ⟨db,o,none⟩=false:=fun o=>fH hr2 o;have ml:=(gLt hr2);have HR2:=Hd hr2;clear hpb hpc hct hsp hb hr2)))
 obtain⟨X,hX⟩:∃X,X=W2.setCell ⟨db,0,none⟩ (.pointer (some ⟨cb2,0,none⟩)):=⟨_,rfl⟩
 have HDX:Hid (qK db cb2 X):=Hd (by rw[hX];exact aE W2 _ 0 _ 115 _ HR2.out)
 have hk:Ker [115] W2 X:=by rw[hX];exact Ker.set HR2.out (by decide) 0 _
 have HCX:Hid (Ctl cb2 K ⟨#[]⟩ (.pointer (some ⟨P.mb,0,none⟩)) X):=Hd (hk.cells HCT.out (by decide))
 have HSX:Hid (SP N P X):=Hd (HST.out _ _ _ _ HSP.out (hk.mono (by decide)))
 have HFX:Hid (Fr [db] w X):=Hd (by rw[hX];exact(Fr.of_below HB2.out [db]).set (p:=⟨db,0,none⟩) (.inl (by simp)) _)
 have HGX:Hid (Gl X):=Hd (HG.out.low H6.out (HFX.out.below (Nat.le_of_lt hdv) (by simp)))
 rw[←hX]
 have x0:=aA HDX.out 0
 clear hX hk m0 mf ml d0
 go_wp2_with (first
  |(go_at_call 203;go_must (refine(HDI.out _ _ _ HCX.out).mono ?_;rintro e W3 ⟨rfl,hb⟩;have HB3:Hid (Below X.heap.size X W3):=Hd hb;clear hb))
  |(go_at_call 187;go_must (refine(HAL.out _).mono ?_;rintro e W4 ⟨rfl,hb⟩;have HB4:Hid (Below X.heap.size X W4):=Hd (aD HB3.out hb);clear hb))
  |(go_at_call 196;go_must (refine(HNU.out _ (HGX.out.below HB4.out)).mono ?_;rintro e W5 ⟨rfl,hb⟩;have HB5:Hid (Below X.heap.size X W5):=Hd (aD HB4.out hb);clear hb)))
 go_ret
 exact⟨_,P,cb2,rfl,HZ.out,(HB5.out.block _ (gLt HDX.out)).trans HDX.out,(HB5.out.block _ (gLt HCX.out)).trans HCX.out,HST.out _ _ _ _ HSX.out ((Ker.of (ts:=[]) HB5.out).mono (by simp)),HPB.out.1,HPB.out.2,HFX.out.then_below HB5.out⟩
end Go.Proofs.YtlibhkkckgkkkaaGreatDoor.Tf
namespace Go.Proofs.YtlibhkkckgkkkaaGreatDoor.Tf
open Go.RowKit Go.Proofs.YtlibhkkckgkkkaaGreatDoor.Mem Go.Proofs.YtlibhkkckgkkkaaGreatDoor.Boo
abbrev cmS:Cmd:=⟨1,aX,⟨#[]⟩,500,0,0,0,0⟩
abbrev cmC:Cmd:=⟨2,aX,eP,100,900,0,0,0⟩
abbrev cmF:Cmd:=⟨3,⟨#[]⟩,jM,0,0,0,0,0⟩
abbrev cmR:Cmd:=⟨5,⟨#[]⟩,⟨#[]⟩,0,0,0,0,0⟩
abbrev cmN:Cmd:=⟨6,⟨#[]⟩,⟨#[]⟩,0,0,0,0,0⟩
abbrev cmD:Cmd:=⟨7,⟨#[]⟩,⟨#[]⟩,0,0,0,0,0⟩
abbrev CL:List Cmd:=[cmS,cmC,cmF,cmR,cmN,cmD]
def frB:Nat→ByteArray
 |0=>⟨#[0,19,49,32,53,48,48,32,48,32,48,32,48,32,48,32,51,58,109,117,103,199,46]⟩
 |1=>⟨#[0,38,50,32,49,48,48,32,57,48,48,32,48,32,48,32,48,32,51,58,109,117,103,99,117,116,40,108,111,119,101,115,116,44,32,49,48,48,48,41,232,156]⟩
 |2=>⟨#[0,33,51,32,48,32,48,32,48,32,48,32,48,32,48,58,97,99,109,101,32,49,32,109,117,103,32,98,111,98,32,53,46,48,48,93,49]⟩
 |3=>⟨#[0,14,53,32,48,32,48,32,48,32,48,32,48,32,48,58,165,236]⟩
 |4=>⟨#[0,14,54,32,48,32,48,32,48,32,48,32,48,32,48,58,40,79]⟩
 |5=>⟨#[0,14,55,32,48,32,48,32,48,32,48,32,48,32,48,58,83,46]⟩
 |_=>⟨#[]⟩
def hdB:Nat→ByteArray
 |0=>⟨#[0,19,49,32,53,48,48,32,48,32,48,32,48,32,48,32,51,58,109,117,103]⟩
 |1=>⟨#[0,38,50,32,49,48,48,32,57,48,48,32,48,32,48,32,48,32,51,58,109,117,103,99,117,116,40,108,111,119,101,115,116,44,32,49,48,48,48,41]⟩
 |2=>⟨#[0,33,51,32,48,32,48,32,48,32,48,32,48,32,48,58,97,99,109,101,32,49,32,109,117,103,32,98,111,98,32,53,46,48,48]⟩
 |3=>⟨#[0,14,53,32,48,32,48,32,48,32,48,32,48,32,48,58]⟩
 |4=>⟨#[0,14,54,32,48,32,48,32,48,32,48,32,48,32,48,58]⟩
 |5=>⟨#[0,14,55,32,48,32,48,32,48,32,48,32,48,32,48,58]⟩
 |_=>⟨#[]⟩
def ssB:Nat→ByteArray
 |0=>⟨#[0,19,49,32,53,48,48,32,48,32,48,32,48,32,48,32,51,58,109,117,103,199,46,0,38,50,32,49,48,48,32,57,48,48,32,48,32,48,32,48,32,51,58,109,117,103,99,117,116,40,108,111,119,101,115,116,44,32,49,48,48,48,41,232,156,0,33,51,32,48,32,48,32,48,32,48,32,48,32,48,58,97,99,109,101,32,49,32,109,117,103,32,98,111,98,32,53,46,48,48,93,49,0,14,53,32,48,32,48,32,48,32,48,32,48,32,48,58,165,236,0,14,54,32,48,32,48,32,48,32,48,32,48,32,48,58,40,79,0,14,55,32,48,32,48,32,48,32,48,32,48,32,48,58,83,46]⟩
 |1=>⟨#[0,38,50,32,49,48,48,32,57,48,48,32,48,32,48,32,48,32,51,58,109,117,103,99,117,116,40,108,111,119,101,115,116,44,32,49,48,48,48,41,232,156,0,33,51,32,48,32,48,32,48,32,48,32,48,32,48,58,97,99,109,101,32,49,32,109,117,103,32,98,111,98,32,53,46,48,48,93,49,0,14,53,32,48,32,48,32,48,32,48,32,48,32,48,58,165,236,0,14,54,32,48,32,48,32,48,32,48,32,48,32,48,58,40,79,0,14,55,32,48,32,48,32,48,32,48,32,48,32,48,58,83,46]⟩
 |2=>⟨#[0,33,51,32,48,32,48,32,48,32,48,32,48,32,48,58,97,99,109,101,32,49,32,109,117,103,32,98,111,98,32,53,46,48,48,93,49,0,14,53,32,48,32,48,32,48,32,48,32,48,32,48,58,165,236,0,14,54,32,48,32,48,32,48,32,48,32,48,32,48,58,40,79,0,14,55,32,48,32,48,32,48,32,48,32,48,32,48,58,83,46]⟩
 |3=>⟨#[0,14,53,32,48,32,48,32,48,32,48,32,48,32,48,58,165,236,0,14,54,32,48,32,48,32,48,32,48,32,48,32,48,58,40,79,0,14,55,32,48,32,48,32,48,32,48,32,48,32,48,58,83,46]⟩
 |4=>⟨#[0,14,54,32,48,32,48,32,48,32,48,32,48,32,48,58,40,79,0,14,55,32,48,32,48,32,48,32,48,32,48,32,48,58,83,46]⟩
 |5=>⟨#[0,14,55,32,48,32,48,32,48,32,48,32,48,32,48,58,83,46]⟩
 |_=>⟨#[]⟩
theorem aAu:lM (aR cmS).k (aR cmS).xs (aR cmS).t:=⟨by decide,by decide,by decide,by decide,by decide⟩
theorem aRx:RecB (aR cmS).k (aR cmS).xs (aR cmS).t ⟨#[49,32,53,48,48,32,48,32,48,32,48,32,48,32,51,58,109,117,103]⟩ ⟨#[49,32,53,48,48,32,48,32,48,32,48,32,48,32,51]⟩ [⟨#[49]⟩,⟨#[53,48,48]⟩,⟨#[48]⟩,⟨#[48]⟩,⟨#[48]⟩,⟨#[48]⟩,⟨#[51]⟩] 6:=
 ⟨aAu,by decide +kernel,by decide +kernel,by decide,by decide +kernel,by decide,by decide +kernel,by decide +kernel,rfl,rfl,fun i s hs=>by
   match i,hs with
   |0,hs=>cases hs;exact⟨_,rfl,by decide +kernel,by decide⟩
   |1,hs=>cases hs;exact⟨_,rfl,by decide +kernel,by decide⟩
   |2,hs=>cases hs;exact⟨_,rfl,by decide +kernel,by decide⟩
   |3,hs=>cases hs;exact⟨_,rfl,by decide +kernel,by decide⟩
   |4,hs=>cases hs;exact⟨_,rfl,by decide +kernel,by decide⟩
   |5,hs=>cases hs;exact⟨_,rfl,by decide +kernel,by decide⟩
   |6,hs=>cases hs;exact⟨_,rfl,by decide +kernel,by decide⟩
   |j+7,hs=>simp at hs⟩
theorem aOm:wrap64 (nA (hdB 0).data.toList)=((50990:Nat):Int):=by decide +kernel
theorem aRw:mX (aR cmS).k cmS.s cmS.t cmS.n0 cmS.n1 cmS.n2 cmS.n3 cmS.n4 (frB 0):=fun W A c G hat=>by
 have:=iM (aR cmS).k A c 6 (aR cmS).xs (aR cmS).t ⟨#[49,32,53,48,48,32,48,32,48,32,48,32,48,32,51,58,109,117,103]⟩ (hdB 0) 50990 rfl aAu (by decide +kernel) (by decide +kernel) (by decide) (by decide +kernel) aOm (by decide) W G hat
 rwa [show hdB 0++dC 50990=frB 0 from by decide +kernel] at this
theorem aAz:lM (aR cmC).k (aR cmC).xs (aR cmC).t:=⟨by decide,by decide,by decide,by decide,by decide⟩
theorem aR7:RecB (aR cmC).k (aR cmC).xs (aR cmC).t ⟨#[50,32,49,48,48,32,57,48,48,32,48,32,48,32,48,32,51,58,109,117,103,99,117,116,40,108,111,119,101,115,116,44,32,49,48,48,48,41]⟩ ⟨#[50,32,49,48,48,32,57,48,48,32,48,32,48,32,48,32,51]⟩ [⟨#[50]⟩,⟨#[49,48,48]⟩,⟨#[57,48,48]⟩,⟨#[48]⟩,⟨#[48]⟩,⟨#[48]⟩,⟨#[51]⟩] 6:=
 ⟨aAz,by decide +kernel,by decide +kernel,by decide,by decide +kernel,by decide,by decide +kernel,by decide +kernel,rfl,rfl,fun i s hs=>by
   match i,hs with
   |0,hs=>cases hs;exact⟨_,rfl,by decide +kernel,by decide⟩
   |1,hs=>cases hs;exact⟨_,rfl,by decide +kernel,by decide⟩
   |2,hs=>cases hs;exact⟨_,rfl,by decide +kernel,by decide⟩
   |3,hs=>cases hs;exact⟨_,rfl,by decide +kernel,by decide⟩
   |4,hs=>cases hs;exact⟨_,rfl,by decide +kernel,by decide⟩
   |5,hs=>cases hs;exact⟨_,rfl,by decide +kernel,by decide⟩
   |6,hs=>cases hs;exact⟨_,rfl,by decide +kernel,by decide⟩
   |j+7,hs=>simp at hs⟩
theorem aOr:wrap64 (nA (hdB 1).data.toList)=((59548:Nat):Int):=by decide +kernel
theorem aR6:mX (aR cmC).k cmC.s cmC.t cmC.n0 cmC.n1 cmC.n2 cmC.n3 cmC.n4 (frB 1):=fun W A c G hat=>by
 have:=iM (aR cmC).k A c 6 (aR cmC).xs (aR cmC).t ⟨#[50,32,49,48,48,32,57,48,48,32,48,32,48,32,48,32,51,58,109,117,103,99,117,116,40,108,111,119,101,115,116,44,32,49,48,48,48,41]⟩ (hdB 1) 59548 rfl aAz (by decide +kernel) (by decide +kernel) (by decide) (by decide +kernel) aOr (by decide) W G hat
 rwa [show hdB 1++dC 59548=frB 1 from by decide +kernel] at this
theorem aAx:lM (aR cmF).k (aR cmF).xs (aR cmF).t:=⟨by decide,by decide,by decide,by decide,by decide⟩
theorem aR3:RecB (aR cmF).k (aR cmF).xs (aR cmF).t ⟨#[51,32,48,32,48,32,48,32,48,32,48,32,48,58,97,99,109,101,32,49,32,109,117,103,32,98,111,98,32,53,46,48,48]⟩ ⟨#[51,32,48,32,48,32,48,32,48,32,48,32,48]⟩ [⟨#[51]⟩,⟨#[48]⟩,⟨#[48]⟩,⟨#[48]⟩,⟨#[48]⟩,⟨#[48]⟩,⟨#[48]⟩] 6:=
 ⟨aAx,by decide +kernel,by decide +kernel,by decide,by decide +kernel,by decide,by decide +kernel,by decide +kernel,rfl,rfl,fun i s hs=>by
   match i,hs with
   |0,hs=>cases hs;exact⟨_,rfl,by decide +kernel,by decide⟩
   |1,hs=>cases hs;exact⟨_,rfl,by decide +kernel,by decide⟩
   |2,hs=>cases hs;exact⟨_,rfl,by decide +kernel,by decide⟩
   |3,hs=>cases hs;exact⟨_,rfl,by decide +kernel,by decide⟩
   |4,hs=>cases hs;exact⟨_,rfl,by decide +kernel,by decide⟩
   |5,hs=>cases hs;exact⟨_,rfl,by decide +kernel,by decide⟩
   |6,hs=>cases hs;exact⟨_,rfl,by decide +kernel,by decide⟩
   |j+7,hs=>simp at hs⟩
theorem aOp:wrap64 (nA (hdB 2).data.toList)=((23857:Nat):Int):=by decide +kernel
theorem aR2:mX (aR cmF).k cmF.s cmF.t cmF.n0 cmF.n1 cmF.n2 cmF.n3 cmF.n4 (frB 2):=fun W A c G hat=>by
 have:=iM (aR cmF).k A c 6 (aR cmF).xs (aR cmF).t ⟨#[51,32,48,32,48,32,48,32,48,32,48,32,48,58,97,99,109,101,32,49,32,109,117,103,32,98,111,98,32,53,46,48,48]⟩ (hdB 2) 23857 rfl aAx (by decide +kernel) (by decide +kernel) (by decide) (by decide +kernel) aOp (by decide) W G hat
 rwa [show hdB 2++dC 23857=frB 2 from by decide +kernel] at this
theorem aAv:lM (aR cmR).k (aR cmR).xs (aR cmR).t:=⟨by decide,by decide,by decide,by decide,by decide⟩
theorem aRz:RecB (aR cmR).k (aR cmR).xs (aR cmR).t ⟨#[53,32,48,32,48,32,48,32,48,32,48,32,48,58]⟩ ⟨#[53,32,48,32,48,32,48,32,48,32,48,32,48]⟩ [⟨#[53]⟩,⟨#[48]⟩,⟨#[48]⟩,⟨#[48]⟩,⟨#[48]⟩,⟨#[48]⟩,⟨#[48]⟩] 6:=
 ⟨aAv,by decide +kernel,by decide +kernel,by decide,by decide +kernel,by decide,by decide +kernel,by decide +kernel,rfl,rfl,fun i s hs=>by
   match i,hs with
   |0,hs=>cases hs;exact⟨_,rfl,by decide +kernel,by decide⟩
   |1,hs=>cases hs;exact⟨_,rfl,by decide +kernel,by decide⟩
   |2,hs=>cases hs;exact⟨_,rfl,by decide +kernel,by decide⟩
   |3,hs=>cases hs;exact⟨_,rfl,by decide +kernel,by decide⟩
   |4,hs=>cases hs;exact⟨_,rfl,by decide +kernel,by decide⟩
   |5,hs=>cases hs;exact⟨_,rfl,by decide +kernel,by decide⟩
   |6,hs=>cases hs;exact⟨_,rfl,by decide +kernel,by decide⟩
   |j+7,hs=>simp at hs⟩
theorem aOn:wrap64 (nA (hdB 3).data.toList)=((42476:Nat):Int):=by decide +kernel
theorem aRy:mX (aR cmR).k cmR.s cmR.t cmR.n0 cmR.n1 cmR.n2 cmR.n3 cmR.n4 (frB 3):=fun W A c G hat=>by
 have:=iM (aR cmR).k A c 6 (aR cmR).xs (aR cmR).t ⟨#[53,32,48,32,48,32,48,32,48,32,48,32,48,58]⟩ (hdB 3) 42476 rfl aAv (by decide +kernel) (by decide +kernel) (by decide) (by decide +kernel) aOn (by decide) W G hat
 rwa [show hdB 3++dC 42476=frB 3 from by decide +kernel] at this
theorem aAw:lM (aR cmN).k (aR cmN).xs (aR cmN).t:=⟨by decide,by decide,by decide,by decide,by decide⟩
theorem aR1:RecB (aR cmN).k (aR cmN).xs (aR cmN).t ⟨#[54,32,48,32,48,32,48,32,48,32,48,32,48,58]⟩ ⟨#[54,32,48,32,48,32,48,32,48,32,48,32,48]⟩ [⟨#[54]⟩,⟨#[48]⟩,⟨#[48]⟩,⟨#[48]⟩,⟨#[48]⟩,⟨#[48]⟩,⟨#[48]⟩] 6:=
 ⟨aAw,by decide +kernel,by decide +kernel,by decide,by decide +kernel,by decide,by decide +kernel,by decide +kernel,rfl,rfl,fun i s hs=>by
   match i,hs with
   |0,hs=>cases hs;exact⟨_,rfl,by decide +kernel,by decide⟩
   |1,hs=>cases hs;exact⟨_,rfl,by decide +kernel,by decide⟩
   |2,hs=>cases hs;exact⟨_,rfl,by decide +kernel,by decide⟩
   |3,hs=>cases hs;exact⟨_,rfl,by decide +kernel,by decide⟩
   |4,hs=>cases hs;exact⟨_,rfl,by decide +kernel,by decide⟩
   |5,hs=>cases hs;exact⟨_,rfl,by decide +kernel,by decide⟩
   |6,hs=>cases hs;exact⟨_,rfl,by decide +kernel,by decide⟩
   |j+7,hs=>simp at hs⟩
theorem aOo:wrap64 (nA (hdB 4).data.toList)=((10319:Nat):Int):=by decide +kernel
theorem aR0:mX (aR cmN).k cmN.s cmN.t cmN.n0 cmN.n1 cmN.n2 cmN.n3 cmN.n4 (frB 4):=fun W A c G hat=>by
 have:=iM (aR cmN).k A c 6 (aR cmN).xs (aR cmN).t ⟨#[54,32,48,32,48,32,48,32,48,32,48,32,48,58]⟩ (hdB 4) 10319 rfl aAw (by decide +kernel) (by decide +kernel) (by decide) (by decide +kernel) aOo (by decide) W G hat
 rwa [show hdB 4++dC 10319=frB 4 from by decide +kernel] at this
theorem aAy:lM (aR cmD).k (aR cmD).xs (aR cmD).t:=⟨by decide,by decide,by decide,by decide,by decide⟩
theorem aR5:RecB (aR cmD).k (aR cmD).xs (aR cmD).t ⟨#[55,32,48,32,48,32,48,32,48,32,48,32,48,58]⟩ ⟨#[55,32,48,32,48,32,48,32,48,32,48,32,48]⟩ [⟨#[55]⟩,⟨#[48]⟩,⟨#[48]⟩,⟨#[48]⟩,⟨#[48]⟩,⟨#[48]⟩,⟨#[48]⟩] 6:=
 ⟨aAy,by decide +kernel,by decide +kernel,by decide,by decide +kernel,by decide,by decide +kernel,by decide +kernel,rfl,rfl,fun i s hs=>by
   match i,hs with
   |0,hs=>cases hs;exact⟨_,rfl,by decide +kernel,by decide⟩
   |1,hs=>cases hs;exact⟨_,rfl,by decide +kernel,by decide⟩
   |2,hs=>cases hs;exact⟨_,rfl,by decide +kernel,by decide⟩
   |3,hs=>cases hs;exact⟨_,rfl,by decide +kernel,by decide⟩
   |4,hs=>cases hs;exact⟨_,rfl,by decide +kernel,by decide⟩
   |5,hs=>cases hs;exact⟨_,rfl,by decide +kernel,by decide⟩
   |6,hs=>cases hs;exact⟨_,rfl,by decide +kernel,by decide⟩
   |j+7,hs=>simp at hs⟩
theorem aOq:wrap64 (nA (hdB 5).data.toList)=((21294:Nat):Int):=by decide +kernel
theorem aR4:mX (aR cmD).k cmD.s cmD.t cmD.n0 cmD.n1 cmD.n2 cmD.n3 cmD.n4 (frB 5):=fun W A c G hat=>by
 have:=iM (aR cmD).k A c 6 (aR cmD).xs (aR cmD).t ⟨#[55,32,48,32,48,32,48,32,48,32,48,32,48,58]⟩ (hdB 5) 21294 rfl aAy (by decide +kernel) (by decide +kernel) (by decide) (by decide +kernel) aOq (by decide) W G hat
 rwa [show hdB 5++dC 21294=frB 5 from by decide +kernel] at this
end Go.Proofs.YtlibhkkckgkkkaaGreatDoor.Tf
namespace Go.Proofs.YtlibhkkckgkkkaaGreatDoor.Tf
open Go.RowKit Go.Proofs.YtlibhkkckgkkkaaGreatDoor.Mem Go.Proofs.YtlibhkkckgkkkaaGreatDoor.Boo Go.Proofs.Tryz
theorem rd_0 (rb:Nat) (v0 v1:Value) (W:World) (h:W.heap[rb]?=some (.cells #[v0,v1,.string (ssB 0)] 342 (0,0))):Calls prog 247 #[.pointer (some ⟨rb,0,none⟩)] W (Ret (.tuple #[.string (hdB 0),.bool true,.bool true]) W):=
 mF rb v0 v1 (ssB 0) (hdB 0) (dC 50990) 0 19 21 50990 W h (by decide +kernel) (by decide +kernel) (by decide) (by decide +kernel) (by decide +kernel) (by decide) (by decide +kernel) (by decide +kernel) aOm (by decide) rfl
theorem rc_0 (W:World) (G:Gl W):Calls prog 248 #[.string ((hdB 0).extract 2 (hdB 0).size)] W fun e w'=>∃A c,e=.returned (.tuple #[.agg #[.int .i64 (aR cmS).k,.slice A (aR cmS).xs.length c,.string (aR cmS).t],.bool true])∧dZ.Own 3 w' W.heap.size A c (aR cmS).xs∧Below W.heap.size W w':=by
 rw[show(hdB 0).extract 2 (hdB 0).size=⟨#[49,32,53,48,48,32,48,32,48,32,48,32,48,32,51,58,109,117,103]⟩ from by decide +kernel]
 exact mE _ _ _ _ _ _ 6 aRx W G
theorem rd_1 (rb:Nat) (v0 v1:Value) (W:World) (h:W.heap[rb]?=some (.cells #[v0,v1,.string (ssB 1)] 342 (0,0))):Calls prog 247 #[.pointer (some ⟨rb,0,none⟩)] W (Ret (.tuple #[.string (hdB 1),.bool true,.bool true]) W):=
 mF rb v0 v1 (ssB 1) (hdB 1) (dC 59548) 0 38 40 59548 W h (by decide +kernel) (by decide +kernel) (by decide) (by decide +kernel) (by decide +kernel) (by decide) (by decide +kernel) (by decide +kernel) aOr (by decide) rfl
theorem rc_1 (W:World) (G:Gl W):Calls prog 248 #[.string ((hdB 1).extract 2 (hdB 1).size)] W fun e w'=>∃A c,e=.returned (.tuple #[.agg #[.int .i64 (aR cmC).k,.slice A (aR cmC).xs.length c,.string (aR cmC).t],.bool true])∧dZ.Own 3 w' W.heap.size A c (aR cmC).xs∧Below W.heap.size W w':=by
 rw[show(hdB 1).extract 2 (hdB 1).size=⟨#[50,32,49,48,48,32,57,48,48,32,48,32,48,32,48,32,51,58,109,117,103,99,117,116,40,108,111,119,101,115,116,44,32,49,48,48,48,41]⟩ from by decide +kernel]
 exact mE _ _ _ _ _ _ 6 aR7 W G
theorem rd_2 (rb:Nat) (v0 v1:Value) (W:World) (h:W.heap[rb]?=some (.cells #[v0,v1,.string (ssB 2)] 342 (0,0))):Calls prog 247 #[.pointer (some ⟨rb,0,none⟩)] W (Ret (.tuple #[.string (hdB 2),.bool true,.bool true]) W):=
 mF rb v0 v1 (ssB 2) (hdB 2) (dC 23857) 0 33 35 23857 W h (by decide +kernel) (by decide +kernel) (by decide) (by decide +kernel) (by decide +kernel) (by decide) (by decide +kernel) (by decide +kernel) aOp (by decide) rfl
theorem rc_2 (W:World) (G:Gl W):Calls prog 248 #[.string ((hdB 2).extract 2 (hdB 2).size)] W fun e w'=>∃A c,e=.returned (.tuple #[.agg #[.int .i64 (aR cmF).k,.slice A (aR cmF).xs.length c,.string (aR cmF).t],.bool true])∧dZ.Own 3 w' W.heap.size A c (aR cmF).xs∧Below W.heap.size W w':=by
 rw[show(hdB 2).extract 2 (hdB 2).size=⟨#[51,32,48,32,48,32,48,32,48,32,48,32,48,58,97,99,109,101,32,49,32,109,117,103,32,98,111,98,32,53,46,48,48]⟩ from by decide +kernel]
 exact mE _ _ _ _ _ _ 6 aR3 W G
theorem rd_3 (rb:Nat) (v0 v1:Value) (W:World) (h:W.heap[rb]?=some (.cells #[v0,v1,.string (ssB 3)] 342 (0,0))):Calls prog 247 #[.pointer (some ⟨rb,0,none⟩)] W (Ret (.tuple #[.string (hdB 3),.bool true,.bool true]) W):=
 mF rb v0 v1 (ssB 3) (hdB 3) (dC 42476) 0 14 16 42476 W h (by decide +kernel) (by decide +kernel) (by decide) (by decide +kernel) (by decide +kernel) (by decide) (by decide +kernel) (by decide +kernel) aOn (by decide) rfl
theorem rc_3 (W:World) (G:Gl W):Calls prog 248 #[.string ((hdB 3).extract 2 (hdB 3).size)] W fun e w'=>∃A c,e=.returned (.tuple #[.agg #[.int .i64 (aR cmR).k,.slice A (aR cmR).xs.length c,.string (aR cmR).t],.bool true])∧dZ.Own 3 w' W.heap.size A c (aR cmR).xs∧Below W.heap.size W w':=by
 rw[show(hdB 3).extract 2 (hdB 3).size=⟨#[53,32,48,32,48,32,48,32,48,32,48,32,48,58]⟩ from by decide +kernel]
 exact mE _ _ _ _ _ _ 6 aRz W G
theorem rd_4 (rb:Nat) (v0 v1:Value) (W:World) (h:W.heap[rb]?=some (.cells #[v0,v1,.string (ssB 4)] 342 (0,0))):Calls prog 247 #[.pointer (some ⟨rb,0,none⟩)] W (Ret (.tuple #[.string (hdB 4),.bool true,.bool true]) W):=
 mF rb v0 v1 (ssB 4) (hdB 4) (dC 10319) 0 14 16 10319 W h (by decide +kernel) (by decide +kernel) (by decide) (by decide +kernel) (by decide +kernel) (by decide) (by decide +kernel) (by decide +kernel) aOo (by decide) rfl
theorem rc_4 (W:World) (G:Gl W):Calls prog 248 #[.string ((hdB 4).extract 2 (hdB 4).size)] W fun e w'=>∃A c,e=.returned (.tuple #[.agg #[.int .i64 (aR cmN).k,.slice A (aR cmN).xs.length c,.string (aR cmN).t],.bool true])∧dZ.Own 3 w' W.heap.size A c (aR cmN).xs∧Below W.heap.size W w':=by
 rw[show(hdB 4).extract 2 (hdB 4).size=⟨#[54,32,48,32,48,32,48,32,48,32,48,32,48,58]⟩ from by decide +kernel]
 exact mE _ _ _ _ _ _ 6 aR1 W G
theorem rd_5 (rb:Nat) (v0 v1:Value) (W:World) (h:W.heap[rb]?=some (.cells #[v0,v1,.string (ssB 5)] 342 (0,0))):Calls prog 247 #[.pointer (some ⟨rb,0,none⟩)] W (Ret (.tuple #[.string (hdB 5),.bool true,.bool true]) W):=
 mF rb v0 v1 (ssB 5) (hdB 5) (dC 21294) 0 14 16 21294 W h (by decide +kernel) (by decide +kernel) (by decide) (by decide +kernel) (by decide +kernel) (by decide) (by decide +kernel) (by decide +kernel) aOq (by decide) rfl
theorem rc_5 (W:World) (G:Gl W):Calls prog 248 #[.string ((hdB 5).extract 2 (hdB 5).size)] W fun e w'=>∃A c,e=.returned (.tuple #[.agg #[.int .i64 (aR cmD).k,.slice A (aR cmD).xs.length c,.string (aR cmD).t],.bool true])∧dZ.Own 3 w' W.heap.size A c (aR cmD).xs∧Below W.heap.size W w':=by
 rw[show(hdB 5).extract 2 (hdB 5).size=⟨#[55,32,48,32,48,32,48,32,48,32,48,32,48,58]⟩ from by decide +kernel]
 exact mE _ _ _ _ _ _ 6 aR5 W G
theorem sY:nN CL.length ssB hdB (fun i=>aR (CL.getD i cmd0)) where
 last:=rfl
 rd:=fun i hi=>by
  match i,hi with
  |0,_=>exact rd_0
  |1,_=>exact rd_1
  |2,_=>exact rd_2
  |3,_=>exact rd_3
  |4,_=>exact rd_4
  |5,_=>exact rd_5
 rc:=fun i hi=>by
  match i,hi with
  |0,_=>exact rc_0
  |1,_=>exact rc_1
  |2,_=>exact rc_2
  |3,_=>exact rc_3
  |4,_=>exact rc_4
  |5,_=>exact rc_5
 cut:=fun i hi=>by
  match i,hi with
  |0,_=>decide +kernel
  |1,_=>decide +kernel
  |2,_=>decide +kernel
  |3,_=>decide +kernel
  |4,_=>decide +kernel
  |5,_=>decide +kernel
 size:=fun i hi=>by
  match i,hi with
  |0,_=>decide +kernel
  |1,_=>decide +kernel
  |2,_=>decide +kernel
  |3,_=>decide +kernel
  |4,_=>decide +kernel
  |5,_=>decide +kernel
 top:=by decide +kernel
 num:=by decide
theorem wV:Jour CL (ssB 0) ssB hdB:=⟨sY,rfl,fun c hc=>by
 simp only[List.mem_cons,List.not_mem_nil,or_false] at hc
 rcases hc with rfl|rfl|rfl|rfl|rfl|rfl
 ·exact aAu
 ·exact aAz
 ·exact aAx
 ·exact aAv
 ·exact aAw
 ·exact aAy⟩
theorem zS:Jour [] (⟨#[]⟩++⟨#[]⟩) (fun _=>⟨#[]⟩) (fun _=>⟨#[]⟩):=⟨⟨rfl,(fun i hi=>absurd hi (Nat.not_lt_zero i)),(fun i hi=>absurd hi (Nat.not_lt_zero i)),(fun i hi=>absurd hi (Nat.not_lt_zero i)),(fun i hi=>absurd hi (Nat.not_lt_zero i)),by decide,by decide⟩,by decide +kernel,(fun c hc=>by cases hc)⟩
def DD:Nat→ByteArray
 |0=>⟨#[]⟩
 |i+1=>DD i++frB i
theorem aQp:DD 6=ssB 0:=by decide +kernel
theorem mM (i:Nat) (h:i<6):(DD i).size+(frB i).size≤1000000:=by
 match i,h with
 |0,_=>decide +kernel
 |1,_=>decide +kernel
 |2,_=>decide +kernel
 |3,_=>decide +kernel
 |4,_=>decide +kernel
 |5,_=>decide +kernel
end Go.Proofs.YtlibhkkckgkkkaaGreatDoor.Tf
