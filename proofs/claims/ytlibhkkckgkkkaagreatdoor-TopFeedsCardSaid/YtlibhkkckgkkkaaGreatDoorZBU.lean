/- Part of the proof of TopFeeds: AwN. -/
import Derived.Test.YtlibhkkckgkkkaaGreatDoorZAX
import Derived.Test.YtlibhkkckgkkkaaGreatDoorZBI
import Derived.Test.YtlibhkkckgkkkaaGreatDoorZBO
import Derived.Test.YtlibhkkckgkkkaaGreatDoorZBT
set_option maxHeartbeats 4000000
set_option maxRecDepth 100000
namespace Go.Proofs.YtlibhkkckgkkkaaGreatDoor.Tf
open Go.RowKit Go.Proofs.YtlibhkkckgkkkaaGreatDoor.Mem Go.Proofs.YtlibhkkckgkkkaaGreatDoor.Boo Go.Proofs.Tryz
abbrev Ctl (cb:Nat) (K p:ByteArray) (mv:Value) (w:World):Prop:=w.heap[cb]?=some (.cells #[.string K,.string p,mv] 212 (0,0))
theorem aCb {W:World} {cb:Nat} {K p K' p':ByteArray} {mv:Value} (h:Ctl cb K p mv W):Ctl cb K' p' mv ((W.setCell ⟨cb,0,none⟩ (.string K')).setCell ⟨cb,1,none⟩ (.string p')):=
 aE _ cb 1 _ 212 _ (aE W cb 0 _ 212 _ h)
theorem aIi {w W:World} {cb:Nat} (h:Below w.heap.size w W) (u v:Value):Fr [cb] w ((W.setCell ⟨cb,0,none⟩ u).setCell ⟨cb,1,none⟩ v):=
 ((Fr.of_below h [cb]).set (p:=⟨cb,0,none⟩) (.inl (by simp)) u).set (p:=⟨cb,1,none⟩) (.inl (by simp)) v
def mX (k:Int) (s t:ByteArray) (m0 m1 m2 m3 m4:Int) (f:ByteArray):Prop:=∀W A q,Gl W→dZ.At W A q [m0,m1,m2,m3,m4,(s.size:Int)]→Calls prog 300 #[.agg #[.int .i64 k,.slice A 6 q,.string (s++t)]] W (Ret (.tuple #[.string f,.int .i64 0]) W)
theorem aCm (cb:Nat) (K p:ByteArray) (mv:Value) (k:Int) (s t:ByteArray) (m0 m1 m2 m3 m4:Int) (f:ByteArray) (hs:s.size≤2000∧t.size≤2000) (hf:K.size+p.size+f.size≤1000000) (hE:mX k s t m0 m1 m2 m3 m4 f) (w:World) (G:Gl w) (h:Ctl cb K p mv w):
 Calls prog 261 #[.pointer (some ⟨cb,0,none⟩),.agg #[.int .i64 k,.string s,.string t,.int .i64 m0,.int .i64 m1,.int .i64 m2,.int .i64 m3,.int .i64 m4]] w fun e w'=>e=.returned (.int .i64 0)∧Ctl cb K (p++f) mv w'∧Fr [cb] w w':=by
 have HG:=Hd G
 have HR:Hid (∀W,Calls prog 301 #[.agg #[.int .i64 k,.string s,.string t,.int .i64 m0,.int .i64 m1,.int .i64 m2,.int .i64 m3,.int .i64 m4]] W fun e w'=>∃A c,e=.returned (.agg #[.int .i64 k,.slice A 6 c,.string (s++t)])∧dZ.At w' A c [m0,m1,m2,m3,m4,(s.size:Int)]∧Below W.heap.size W w'):=Hd (fun W=>aJr k s t m0 m1 m2 m3 m4 hs W)
 unfold mX at hE
 have HE:=Hd hE
 have HA:Hid (∀W,Calls prog 302 #[.agg #[.string K,.string p],.string f] W (Ret (.tuple #[.agg #[.string K,.string (p++f)],.int .i64 0]) W)):=Hd (fun W=>aJj K p f hf W)
 have HC:=Hd h
 generalize s++t=st at *
 clear hs hf hE G h
 go_enter func261,ntmps261
 go_wp2_with (first
  |(go_at_call 301;go_must (refine(HR.out _).mono ?_;rintro e W1 ⟨A1,q1,rfl,hat,hb⟩;have HB1:=bst w hb;have HAT:=Hd hat;clear hat hb))
  |(go_at_call 300;go_must (refine rC w (HE.out _ A1 q1 (HG.out.below blw) HAT.out) ?_;intro W2 hb HB2;have hr2:=(HB2.out.block _ (gLt HC.out)).trans HC.out;have c0:=aA hr2 0;have c1:=aA hr2 1;clear hb hr2))
  |(go_at_call 302;go_must (refine rC w (HA.out _) ?_;intro W3 hb HB3;have hr3:=(HB3.out.block _ (gLt HC.out)).trans HC.out;have d0:=aA hr3 0;have d1:=aA hr3 1;have df:∀o,W3.frozen? ⟨cb,o,none⟩=false:=fun o=>fH hr3 o;have dl:=(gLt hr3);have HR3:=Hd hr3;clear hb hr3)))
 go_ret
 exact⟨rfl,aCb HR3.out,aIi HB3.out _ _⟩
theorem aE6 (cb:Nat) (K p:ByteArray) (mv:Value) (hf:K.size+p.size≤100000000) (w:World) (h:Ctl cb K p mv w):
 Calls prog 262 #[.pointer (some ⟨cb,0,none⟩)] w fun e w'=>e=.returned (.tuple #[])∧Ctl cb (K++p) ⟨#[]⟩ mv w'∧Fr [cb] w w':=by
 have HA:Hid (∀W,Calls prog 303 #[.agg #[.string K,.string p]] W (Ret (.agg #[.string (K++p),.string ⟨#[]⟩]) W)):=Hd (fun W=>aE1 K p hf W)
 have HC:=Hd h
 have c0:=aA h 0
 have c1:=aA h 1
 generalize K++p=Kp at *
 clear hf h
 go_enter func262,ntmps262
 go_wp2_with (first
  |(go_at_call 303;go_must (refine rC w (HA.out _) ?_;intro W3 hb HB3;have hr3:=(HB3.out.block _ (gLt HC.out)).trans HC.out;have d0:=aA hr3 0;have d1:=aA hr3 1;have df:∀o,W3.frozen? ⟨cb,o,none⟩=false:=fun o=>fH hr3 o;have dl:=(gLt hr3);have HR3:=Hd hr3;clear hb hr3)))
 first|go_ret|go_end0
 exact⟨rfl,aCb HR3.out,aIi HB3.out _ _⟩
theorem aNk (f:ByteArray):(⟨#[]⟩:ByteArray)++f=f:=by
 apply ByteArray.ext
 rw[ByteArray.data_append]
 simp
theorem Ker.mono {ts ts':List TypeId} {w w':World} (h:Ker ts w w') (hs:∀t∈ts,t∈ts'):Ker ts' w w':=fun i o hi ho=>h i o hi (fun c t f e hm=>ho c t f e (hs t hm))
theorem Ker.ofFr {cb:Nat} {K p:ByteArray} {mv:Value} {w w':World} (hc:Ctl cb K p mv w) (h:Fr [cb] w w'):Ker [212] w w':=fun i o hi ho=>by
 have hlt:=(gLt hi)
 refine(h.block i hlt (fun hm=>?_)).trans hi
 obtain rfl:=List.mem_singleton.1 hm
 rw[hc] at hi
 injection hi with hi
 exact ho _ _ _ hi.symm (by simp)
structure dJ (B cb:Nat) (w w':World):Prop where
 below:Below B w w'
 other:∀(i:Nat) (cs:Array Value) (t:TypeId) (fz:Nat×Nat),i≠cb→t∈akL→w.heap[i]?=some (.cells cs t fz)→w'.heap[i]?=some (.cells cs t fz)
 size:w.heap.size≤w'.heap.size
theorem dJ.ofA {B cb:Nat} {w w':World} (h:aT B w w'):dJ B cb w w':=⟨h.below,fun i cs t fz _ ht hi=>h.other i cs t fz ht hi,h.size⟩
theorem dJ.ofF {B cb:Nat} {w w':World} (h:Fr [cb] w w') (hB:B≤w.heap.size) (hc:B≤cb):dJ B cb w w':=⟨h.below hB (by simpa using hc),fun i cs t fz hn _ hi=>(h.block i (gLt hi) (by simpa using hn)).trans hi,h.size⟩
theorem dJ.ofB {B cb:Nat} {w w':World} (hB:B≤w.heap.size) (h:Below w.heap.size w w'):dJ B cb w w':=dJ.ofA (aT.ofB hB h)
theorem dJ.trans {B cb:Nat} {w1 w2 w3:World} (h:dJ B cb w1 w2) (k:dJ B cb w2 w3):dJ B cb w1 w3:=⟨h.below.trans k.below,fun i cs t fz hn ht hi=>k.other i cs t fz hn ht (h.other i cs t fz hn ht hi),Nat.le_trans h.size k.size⟩
theorem dJ.res {B cb b:Nat} {w W:World} (h:dJ B cb w W) (hB:B≤w.heap.size) (hb:w.heap.size≤b) (u v:Value):dJ B cb w ((W.setCell ⟨b,0,none⟩ u).setCell ⟨b,1,none⟩ v):=
 ⟨aH (aH h.below (p:=⟨b,0,none⟩) (Nat.le_trans hB hb) u) (p:=⟨b,1,none⟩) (Nat.le_trans hB hb) v,fun i cs t fz hn ht hi=>by
   have hlt:=(gLt hi)
   exact(aG _ ⟨b,1,none⟩ v i (by dsimp only;omega)).trans ((aG _ ⟨b,0,none⟩ u i (by dsimp only;omega)).trans (h.other i cs t fz hn ht hi)),by simpa[World.setCell] using h.size⟩
theorem aN5 (B mb:Nat) (S1 S2:World→Prop) (st1:∀W W',S1 W→Ker [212,38] W W'→S1 W') (st2:∀W W',S2 W→Ker [212,38] W W'→S2 W') (cb:Nat) (hcb:B≤cb) (hP:6≤B) (K:ByteArray) (k:Int) (s t:ByteArray) (m0 m1 m2 m3 m4 N:Int) (f:ByteArray) (hs:s.size≤2000∧t.size≤2000) (hf:K.size+f.size≤1000000) (hE:mX k s t m0 m1 m2 m3 m4 f)
 (hdo:∀W,Gl W→S1 W→Calls prog 9 #[.pointer (some ⟨mb,0,none⟩),.agg #[.int .i64 k,.string s,.string t,.int .i64 m0,.int .i64 m1,.int .i64 m2,.int .i64 m3,.int .i64 m4]] W fun e w'=>e=.returned (.agg #[.int .i64 0,.int .i64 N])∧S2 w'∧aT B W w')
 (v:World) (G:Gl v) (hBv:B≤v.heap.size) (h:S1 v) (hc:Ctl cb K ⟨#[]⟩ (.pointer (some ⟨mb,0,none⟩)) v):
 Calls prog 195 #[.pointer (some ⟨cb,0,none⟩),.agg #[.int .i64 k,.string s,.string t,.int .i64 m0,.int .i64 m1,.int .i64 m2,.int .i64 m3,.int .i64 m4]] v fun e w'=>e=.returned (.agg #[.int .i64 0,.int .i64 N])∧Ctl cb (K++f) ⟨#[]⟩ (.pointer (some ⟨mb,0,none⟩)) w'∧S2 w'∧dJ B cb v w':=by
 obtain⟨w,hw⟩:∃w,w=(v.alloc (.cells (iV k s t m0 m1 m2 m3 m4) 42)).alloc (.cells #[.int .i64 0,.int .i64 0] 38):=⟨_,rfl⟩
 have HG:Hid (iH v w (iV k s t m0 m1 m2 m3 m4)):=Hd ⟨hw⟩
 have hcv:cb<v.heap.size:=(gLt hc)
 have nv:v.heap.size≠v.heap.size+1:=by omega
 have nc:cb≠v.heap.size+1:=by omega
 have HNV:Hid (v.heap.size≠cb):=Hd (by omega)
 have HNR:Hid (v.heap.size+1≠cb):=Hd (by omega)
 have HSZ:=Hd HG.out.size
 have hcw:Ctl cb K ⟨#[]⟩ (.pointer (some ⟨mb,0,none⟩)) w:=(HG.out.below.block _ hcv).trans hc
 have HCW:=Hd hcw
 have HGW:=Hd (G.below HG.out.below)
 have HMW:=Hd (st1 _ _ h (Ker.mono (Ker.of (ts:=[]) HG.out.below) (by simp)))
 have HBv:Hid (B≤v.heap.size):=Hd hBv
 have HS1:=Hd st1
 have HS2:=Hd st2
 have HBw:Hid (B≤w.heap.size):=Hd (Nat.le_trans HBv.out HG.out.below.size)
 have HCB:=Hd hcb
 have HP6:=Hd hP
 have HWR:Hid (∀W,Below w.heap.size w W→Calls prog 261 #[.pointer (some ⟨cb,0,none⟩),.agg #[.int .i64 k,.string s,.string t,.int .i64 m0,.int .i64 m1,.int .i64 m2,.int .i64 m3,.int .i64 m4]] W fun e w'=>e=.returned (.int .i64 0)∧Ctl cb K f (.pointer (some ⟨mb,0,none⟩)) w'∧Fr [cb] W w'):=Hd (fun W hW=>by
  have:=aCm cb K ⟨#[]⟩ (.pointer (some ⟨mb,0,none⟩)) k s t m0 m1 m2 m3 m4 f hs (by have:(ByteArray.mk #[]).size=0:=rfl;omega) hE W (HGW.out.below hW) ((hW.block _ (gLt hcw)).trans hcw)
  rw[aNk] at this
  exact this)
 have HSY:Hid (∀W,Ctl cb K f (.pointer (some ⟨mb,0,none⟩)) W→Calls prog 262 #[.pointer (some ⟨cb,0,none⟩)] W fun e w'=>e=.returned (.tuple #[])∧Ctl cb (K++f) ⟨#[]⟩ (.pointer (some ⟨mb,0,none⟩)) w'∧Fr [cb] W w'):=Hd (fun W hW=>aE6 cb K f _ (by omega) W hW)
 have HDO:=Hd hdo
 have t0:∀j,w.cell? ⟨v.heap.size,j,none⟩=(iV k s t m0 m1 m2 m3 m4)[j]?:=fun j=>aA HG.out.cmd j
 have d0:w.cell? ⟨v.heap.size,0,none⟩=some (.int .i64 k):=t0 0
 have d1:w.cell? ⟨v.heap.size,1,none⟩=some (.string s):=t0 1
 have d2:w.cell? ⟨v.heap.size,2,none⟩=some (.string t):=t0 2
 have d3:w.cell? ⟨v.heap.size,3,none⟩=some (.int .i64 m0):=t0 3
 have d4:w.cell? ⟨v.heap.size,4,none⟩=some (.int .i64 m1):=t0 4
 have d5:w.cell? ⟨v.heap.size,5,none⟩=some (.int .i64 m2):=t0 5
 have d6:w.cell? ⟨v.heap.size,6,none⟩=some (.int .i64 m3):=t0 6
 have d7:w.cell? ⟨v.heap.size,7,none⟩=some (.int .i64 m4):=t0 7
 clear t0 hs hf hE hdo G h hc hcw hcv hcb hP hBv st1 st2
 go_enter func195,ntmps195
 go_upto_region 3 with(fail)
 change Code.wp _ _ _ _ ((v.alloc (.cells (iV k s t m0 m1 m2 m3 m4) 42)).alloc (.cells #[.int .i64 0,.int .i64 0] 38))
 rw[←hw]
 clear hw
 go_cut [5] (fun e wx=>e=.int .i64 0∧Hid (Ctl cb K f (.pointer (some ⟨mb,0,none⟩)) wx)∧Hid (Fr [cb] w wx))
 case first=>
  go_region_held3 (fun W'=>W'.cell? ⟨v.heap.size,0,none⟩=some (.int .i64 k)∧W'.cell? ⟨v.heap.size,1,none⟩=some (.string s)∧W'.cell? ⟨v.heap.size,2,none⟩=some (.string t)∧W'.cell? ⟨v.heap.size,3,none⟩=some (.int .i64 m0)∧W'.cell? ⟨v.heap.size,4,none⟩=some (.int .i64 m1)∧W'.cell? ⟨v.heap.size,5,none⟩=some (.int .i64 m2)∧W'.cell? ⟨v.heap.size,6,none⟩=some (.int .i64 m3)∧W'.cell? ⟨v.heap.size,7,none⟩=some (.int .i64 m4)) (go_keep) (first
   |(go_at_call 261;go_must (refine(HWR.out _ blw).mono ?_;rintro e W1 ⟨rfl,hc1,hf1⟩;have HC1:=Hd hc1;have HF1:Hid (Fr [cb] w W1):=Hd (Fr.of_below_then (show Below w.heap.size w _ from blw) hf1);have hr:=(HF1.out.block v.heap.size (by have:=HSZ.out;omega) (by simpa using HNV.out)).trans HG.out.cmd;have s0:=aA hr 0;have s1:=aA hr 1;have s2:=aA hr 2;have s3:=aA hr 3;have s4:=aA hr 4;have s5:=aA hr 5;have s6:=aA hr 6;have s7:=aA hr 7;clear hc1 hf1 hr)))
  all_goals go_wp2_with fail
  all_goals go_meet
  all_goals exact⟨rfl,HC1,HF1⟩
 case rest=>
 obtain⟨rfl,HC1,HF1⟩:=hcut
 obtain⟨W1,hwc⟩:∃w,w=wc:=⟨_,rfl⟩
 subst hwc
 clear d0 d1 d2 d3 d4 d5 d6 d7
 go_upto_region 7 with(go_at_call 262;go_must (refine(HSY.out _ HC1.out).mono ?_;rintro e W2 ⟨rfl,hc2,hf2⟩;have HC2:=Hd hc2;have HF2:Hid (Fr [cb] w W2):=Hd (HF1.out.step hf2 (fun x hx=>.inl hx));clear hc2 hf2))
 have HM2:Hid (S1 W2):=Hd (HS1.out _ _ HMW.out (Ker.mono (Ker.ofFr HCW.out HF2.out) (by simp)))
 have HG2:Hid (Gl W2):=Hd (HGW.out.low HP6.out (HF2.out.below HBw.out (by simpa using HCB.out)))
 have HR2:Hid (W2.heap[v.heap.size]?=some (.cells (iV k s t m0 m1 m2 m3 m4) 42 (0,0))):=Hd ((HF2.out.block v.heap.size (by have:=HSZ.out;omega) (by simpa using HNV.out)).trans HG.out.cmd)
 have HRR:Hid (W2.heap[v.heap.size+1]?=some (.cells #[.int .i64 0,.int .i64 0] 38 (0,0))):=Hd ((HF2.out.block (v.heap.size+1) (by have:=HSZ.out;omega) (by simpa using HNR.out)).trans HG.out.res)
 have t0:∀j,W2.cell? ⟨v.heap.size,j,none⟩=(iV k s t m0 m1 m2 m3 m4)[j]?:=fun j=>aA HR2.out j
 have d0:W2.cell? ⟨v.heap.size,0,none⟩=some (.int .i64 k):=t0 0
 have d1:W2.cell? ⟨v.heap.size,1,none⟩=some (.string s):=t0 1
 have d2:W2.cell? ⟨v.heap.size,2,none⟩=some (.string t):=t0 2
 have d3:W2.cell? ⟨v.heap.size,3,none⟩=some (.int .i64 m0):=t0 3
 have d4:W2.cell? ⟨v.heap.size,4,none⟩=some (.int .i64 m1):=t0 4
 have d5:W2.cell? ⟨v.heap.size,5,none⟩=some (.int .i64 m2):=t0 5
 have d6:W2.cell? ⟨v.heap.size,6,none⟩=some (.int .i64 m3):=t0 6
 have d7:W2.cell? ⟨v.heap.size,7,none⟩=some (.int .i64 m4):=t0 7
 have d8:=aA HC2.out 2
 clear t0
 go_region_held3 (fun W'=>W'.cell? ⟨cb,2,none⟩=some (.pointer (some ⟨mb,0,none⟩))∧W'.cell? ⟨v.heap.size,0,none⟩=some (.int .i64 k)∧W'.cell? ⟨v.heap.size,1,none⟩=some (.string s)∧W'.cell? ⟨v.heap.size,2,none⟩=some (.string t)∧W'.cell? ⟨v.heap.size,3,none⟩=some (.int .i64 m0)∧W'.cell? ⟨v.heap.size,4,none⟩=some (.int .i64 m1)∧W'.cell? ⟨v.heap.size,5,none⟩=some (.int .i64 m2)∧W'.cell? ⟨v.heap.size,6,none⟩=some (.int .i64 m3)∧W'.cell? ⟨v.heap.size,7,none⟩=some (.int .i64 m4)) (first|(with_reducible exact⟨fD s8 nc _ _,fD s0 nv _ _,fD s1 nv _ _,fD s2 nv _ _,fD s3 nv _ _,fD s4 nv _ _,fD s5 nv _ _,fD s6 nv _ _,fD s7 nv _ _⟩)|go_keep) (first
  |(go_at_call 9;go_must (refine(HDO.out _ (HG2.out.below blw) (HS1.out _ _ HM2.out (Ker.mono (Ker.of (ts:=[]) blw) (by simp)))).mono ?_;rintro e W3 ⟨rfl,hm3,hk3⟩;have HM3:=Hd hm3;have HK3:Hid (aT B W2 W3):=Hd ((aT.ofB (Nat.le_trans HBw.out HF2.out.size) blw).trans hk3);have hr:=HK3.out.other _ _ _ _ (by decide) HR2.out;have s0:=aA hr 0;have s1:=aA hr 1;have s2:=aA hr 2;have s3:=aA hr 3;have s4:=aA hr 4;have s5:=aA hr 5;have s6:=aA hr 6;have s7:=aA hr 7;have hrc:=HK3.out.other _ _ _ _ (by decide) HC2.out;have HC3:Hid (Ctl cb (K++f) ⟨#[]⟩ (.pointer (some ⟨mb,0,none⟩)) W3):=Hd hrc;have s8:=aA hrc 2;have hrr:=HK3.out.other _ _ _ _ (by decide) HRR.out;have r0:=aA hrr 0;have r1:=aA hrr 1;have rf:=fun o=>fH hrr o;have rl:=(gLt hrr);have HR3:=Hd hrr;clear hm3 hk3 hr hrc hrr)))
 all_goals go_wp2_with fail
 all_goals (
  have k3:Ker [38] W3 ((W3.setCell ⟨v.heap.size+1,0,none⟩ (.int .i64 0)).setCell ⟨v.heap.size+1,1,none⟩ (.int .i64 N)):=(Ker.set HR3.out (by decide) 0 _).trans (Ker.set (aE W3 _ 0 _ 38 _ HR3.out) (by decide) 1 _)
  exact bodyPost_ret (v:=.agg #[.int .i64 0,.int .i64 N]) (by simp[results,results195,go_sem, *]) rfl ⟨rfl,k3.cells HC3.out (by decide),HS2.out _ _ HM3.out (Ker.mono k3 (by simp)),((((dJ.ofB HBv.out HG.out.below).trans (dJ.ofF HF2.out HBw.out HCB.out)).trans (dJ.ofA HK3.out)).res HBv.out (Nat.le_succ _) _ _)⟩)
end Go.Proofs.YtlibhkkckgkkkaaGreatDoor.Tf
