/- Part of the proof of TopFeeds: AwQ AwR AwW AwX AwY AwZ. -/
import Derived.Test.YtlibhkkckgkkkaaGreatDoorZAX
import Derived.Test.YtlibhkkckgkkkaaGreatDoorZAZ
import Derived.Test.YtlibhkkckgkkkaaGreatDoorZBH
import Derived.Test.YtlibhkkckgkkkaaGreatDoorZBO
import Derived.Test.YtlibhkkckgkkkaaGreatDoorZBP
import Derived.Laws.CopyOwn
set_option maxHeartbeats 8000000
set_option maxRecDepth 100000
namespace Go.Proofs.YtlibhkkckgkkkaaGreatDoor.Tf
open Go.RowKit Go.Proofs.YtlibhkkckgkkkaaGreatDoor.Mem Go.Proofs.YtlibhkkckgkkkaaGreatDoor.Boo Go.Proofs.Tryz
theorem wF {W:World} {q:Nat} {t:TypeId} {x0 x1 x2 x3 x4 x5 x6 x7:Value} (h:W.heap[q]?=some (.cells #[x0,x1,x2,x3,x4,x5,x6,x7] t (0,0))) (u0 u1 u2 u3 u4 u5 u6 u7:Value):((((((((W.setCell ⟨q,0,none⟩ u0).setCell ⟨q,1,none⟩ u1).setCell ⟨q,2,none⟩ u2).setCell ⟨q,3,none⟩ u3).setCell ⟨q,4,none⟩ u4).setCell ⟨q,5,none⟩ u5).setCell ⟨q,6,none⟩ u6).setCell ⟨q,7,none⟩ u7).heap[q]?=some (.cells #[u0,u1,u2,u3,u4,u5,u6,u7] t (0,0)):=
 aE _ q 7 _ t u7 (aE _ q 6 _ t u6 (aE _ q 5 _ t u5 (aE _ q 4 _ t u4 (aE _ q 3 _ t u3 (aE _ q 2 _ t u2 (aE _ q 1 _ t u1 (aE W q 0 _ t u0 h)))))))
theorem mA {w W:World} {q:Nat} (h:Below w.heap.size w W) (hq:w.heap.size≤q) (u0 u1 u2 u3 u4 u5 u6 u7:Value):Below w.heap.size w ((((((((W.setCell ⟨q,0,none⟩ u0).setCell ⟨q,1,none⟩ u1).setCell ⟨q,2,none⟩ u2).setCell ⟨q,3,none⟩ u3).setCell ⟨q,4,none⟩ u4).setCell ⟨q,5,none⟩ u5).setCell ⟨q,6,none⟩ u6).setCell ⟨q,7,none⟩ u7):=
 aF (p:=⟨q,7,none⟩) (aF (p:=⟨q,6,none⟩) (aF (p:=⟨q,5,none⟩) (aF (p:=⟨q,4,none⟩) (aF (p:=⟨q,3,none⟩) (aF (p:=⟨q,2,none⟩) (aF (p:=⟨q,1,none⟩) (aF (p:=⟨q,0,none⟩) h hq _) hq _) hq _) hq _) hq _) hq _) hq _) hq _
theorem aIu (s t:ByteArray):(s++t).extract 0 s.size=s:=by
 apply ByteArray.ext
 apply Array.ext'
 rw[ByteArray.data_extract,Array.toList_extract,List.extract_eq_take_drop,ByteArray.data_append,Array.toList_append]
 show((s.data.toList++t.data.toList).drop 0).take (s.data.size-0)=_
 rw[List.drop_zero,Nat.sub_zero,←Array.length_toList,List.take_left]
theorem aEs (s t:ByteArray):(s++t).extract s.size (s++t).size=t:=by
 apply ByteArray.ext
 apply Array.ext'
 rw[ByteArray.data_extract,Array.toList_extract,List.extract_eq_take_drop,ByteArray.data_append,Array.toList_append,ByteArray.size_append]
 show((s.data.toList++t.data.toList).drop s.data.size).take (s.data.size+t.data.size-s.data.size)=_
 rw[←Array.length_toList,List.drop_left,Nat.add_sub_cancel_left,←Array.length_toList,List.take_length]
theorem aNx (k:Int) (s t:ByteArray) (m0 m1 m2 m3 m4:Int) (A:Option Addr) (c:Nat) (h:lM k [m0,m1,m2,m3,m4,(s.size:Int)] (s++t)) (w:World) (hat:dZ.At w A c [m0,m1,m2,m3,m4,(s.size:Int)]):
 Calls prog 188 #[.agg #[.int .i64 k,.slice A 6 c,.string (s++t)]] w (Ret (.tuple #[.agg #[.int .i64 k,.string s,.string t,.int .i64 m0,.int .i64 m1,.int .i64 m2,.int .i64 m3,.int .i64 m4],.bool true]) w):=by
 have HFR:Hid (∀W,Below w.heap.size w W→Calls prog 250 #[.agg #[.int .i64 k,.slice A 6 c,.string (s++t)]] W (Ret (.bool true) W)):=Hd (fun W hW=>nG k A c 6 _ (s++t) rfl h W (hat.below hW))
 have htx:=h.text
 have hsz:(s++t).size=s.size+t.size:=ByteArray.size_append
 obtain⟨b,off,rfl,hbl,e0⟩:=jZ hat 0 _ rfl
 obtain⟨_,_,e1',_,e1⟩:=jZ hat 1 _ rfl
 obtain⟨_,_,e2',_,e2⟩:=jZ hat 2 _ rfl
 obtain⟨_,_,e3',_,e3⟩:=jZ hat 3 _ rfl
 obtain⟨_,_,e4',_,e4⟩:=jZ hat 4 _ rfl
 obtain⟨_,_,e5',_,e5⟩:=jZ hat 5 _ rfl
 cases e1'
 cases e2'
 cases e3'
 cases e4'
 cases e5'
 have HE:Hid (∀(j:Nat) u,[.int .i64 m0,.int .i64 m1,.int .i64 m2,.int .i64 m3,.int .i64 m4][j]?=some u→∀W,Below w.heap.size w W→W.cell? (Addr.add ⟨b,off,none⟩ j)=some u):=Hd (fun j u hj W hW=>by
  rw[Addr.add_lit]
  have hj5:j<5:=(List.getElem?_eq_some_iff.1 hj).1
  match j,hj5 with
  |0,_=>cases hj;exact aC hW e0
  |1,_=>cases hj;exact aC hW e1
  |2,_=>cases hj;exact aC hW e2
  |3,_=>cases hj;exact aC hW e3
  |4,_=>cases hj;exact aC hW e4)
 have hle:=hat.le
 have zc:(5:Int)<((6:Nat):Int):=by decide
 have zl:¬(s.size:Int)<0:=by omega
 have zg:¬(s.size:Int)>((s++t).size:Int):=by omega
 have hsa:∀W,(Instr.slice 9 (.string (s++t)) none (some (.int .i64 (s.size:Int))) none).run prog W=.ok (.string s) W:=fun W=>by
  rw[run_slice_string_h (P:=prog) W 9 (s++t) (by kernel_rfl) .i64 (s.size:Int) (by omega) (by omega),Int.toNat_natCast,aIu]
 have hsb:∀W,(Instr.slice 9 (.string (s++t)) (some (.int .i64 (s.size:Int))) none none).run prog W=.ok (.string t) W:=fun W=>by
  rw[run_slice_string_l (P:=prog) W 9 (s++t) (by kernel_rfl) .i64 (s.size:Int) (by omega) (by omega),Int.toNat_natCast,aEs]
 generalize s++t=st at *
 clear hat h htx hsz e0 e1 e2 e3 e4 hle
 go_enter func188,ntmps188
 go_upto_region 6 with(go_at_call 250;go_must (refine rC w (HFR.out _ blw) ?_;intro W1 hb HB1;have hra:W1.heap[w.heap.size]?=some (.cells #[.int .i64 k,.slice (some ⟨b,off,none⟩) 6 c,.string st] 288 (0,0)):=(hb.block _ (by simp;omega)).trans ((Below.heap_alloc _ _ _ (by simp)).trans (aN w _));have hrb:W1.heap[w.heap.size+1]?=some (.cells #[.int .i64 0,.string ⟨#[]⟩,.string ⟨#[]⟩,.int .i64 0,.int .i64 0,.int .i64 0,.int .i64 0,.int .i64 0] 42 (0,0)):=(hb.block _ (by simp)).trans (by have:=aN (w.alloc (.cells #[.int .i64 k,.slice (some ⟨b,off,none⟩) 6 c,.string st] 288)) (.cells #[.int .i64 0,.string ⟨#[]⟩,.string ⟨#[]⟩,.int .i64 0,.int .i64 0,.int .i64 0,.int .i64 0,.int .i64 0] 42);simpa using this);have a0:=aA hra 0;have a1:=aA hra 1;have a2:=aA hra 2;have al:=(gLt hra);have f5:=aC HB1.out e5;have HRA:=Hd hra;have HRB:=Hd hrb;clear hb hra hrb))
 go_cut [] (fun wx=>Hid (wx.heap[w.heap.size+1]?=some (.cells #[.int .i64 0,.string ⟨#[]⟩,.string ⟨#[]⟩,.int .i64 m0,.int .i64 m1,.int .i64 m2,.int .i64 m3,.int .i64 m4] 42 (0,0)))∧Hid (Below (w.heap.size+1) W1 wx))
 case first=>
  go_region_law (first
   |(refine step_copy_splice (by rfl) _ _ _ _ (by rfl) 3 underlying23 (by kernel_rfl) (some ⟨w.heap.size+1,3,none⟩) (some ⟨b,off,none⟩) 5 5 6 c (by rfl) (by rfl) (w.heap.size+1) 3 [.int .i64 0,.string ⟨#[]⟩,.string ⟨#[]⟩,.int .i64 0,.int .i64 0,.int .i64 0,.int .i64 0,.int .i64 0] 42 ?_ [.int .i64 m0,.int .i64 m1,.int .i64 m2,.int .i64 m3,.int .i64 m4] (by rfl) (fun _=>⟨rfl,_,rfl,?_⟩) (by simp) (by simp[Value.oneCell']) (w.heap.size+1) W1 ?_ nR ?_;(exact HRB.out);(exact fun j v hj=>HE.out j v hj _ blw);(first|exact bR|exact aI bR);(intro w4 hg4 hb4;have HG4:=Hd hg4.out;have HB4:=Hd hb4;clear hg4 hb4)))
  all_goals go_wp2_with fail
  all_goals go_meet
  all_goals exact⟨Hd HG4.out,HB4⟩
 case rest=>
 obtain⟨HG4,HB4⟩:=hcut
 obtain⟨W4,hwc⟩:∃w,w=wc:=⟨_,rfl⟩
 subst hwc
 clear a0 a1 a2 al f5
 have hra:=(HB4.out.block _ (Nat.lt_succ_self _)).trans HRA.out
 have a0:=aA hra 0
 have a2:=aA hra 2
 have d0:=aA HG4.out 0
 have d1:=aA HG4.out 1
 have d2:=aA HG4.out 2
 have df:∀o,W4.frozen? ⟨w.heap.size+1,o,none⟩=false:=fun o=>fH HG4.out o
 have dl:=(gLt HG4.out)
 have al:=(gLt hra)
 have n0:w.heap.size≠w.heap.size+1:=by omega
 have HB14:Hid (Below w.heap.size w W4):=Hd (HB1.out.trans (aP HB4.out (Nat.le_succ _)))
 clear hra
 go_upto_region 7 with(fail)
 go_cut [] (fun wx=>Hid (wx.heap[w.heap.size+1]?=some (.cells #[.int .i64 k,.string s,.string t,.int .i64 m0,.int .i64 m1,.int .i64 m2,.int .i64 m3,.int .i64 m4] 42 (0,0)))∧Hid (Below w.heap.size w wx))
 case first=>
  go_region_held3 (fun W'=>W'.cell? ⟨w.heap.size,0,none⟩=some (.int .i64 k)∧W'.cell? ⟨w.heap.size,2,none⟩=some (.string st)) (go_keep) (fail)
  all_goals go_wp2_with fail
  all_goals go_meet
  all_goals exact⟨Hd (aE _ _ 2 _ 42 _ (aE _ _ 1 _ 42 _ (aE W4 _ 0 _ 42 _ HG4.out))),Hd blw⟩
 case rest=>
 obtain⟨HG5,HB5⟩:=hcut
 obtain⟨W5,hwc⟩:∃w,w=wc:=⟨_,rfl⟩
 subst hwc
 clear a0 a2 d0 d1 d2 df dl al n0 hsa hsb
 have g0:=aA HG5.out 0
 have g1:=aA HG5.out 1
 have g2:=aA HG5.out 2
 have g3:=aA HG5.out 3
 have g4:=aA HG5.out 4
 have g5:=aA HG5.out 5
 have g6:=aA HG5.out 6
 have g7:=aA HG5.out 7
 have gf:∀o,W5.frozen? ⟨w.heap.size+1,o,none⟩=false:=fun o=>fH HG5.out o
 have gl:=(gLt HG5.out)
 go_wp2_with fail
 obtain⟨F,hF⟩:∃F,F=((((((((W5.setCell ⟨w.heap.size+1,0,none⟩ (.int .i64 k)).setCell ⟨w.heap.size+1,1,none⟩ (.string s)).setCell ⟨w.heap.size+1,2,none⟩ (.string t)).setCell ⟨w.heap.size+1,3,none⟩ (.int .i64 m0)).setCell ⟨w.heap.size+1,4,none⟩ (.int .i64 m1)).setCell ⟨w.heap.size+1,5,none⟩ (.int .i64 m2)).setCell ⟨w.heap.size+1,6,none⟩ (.int .i64 m3)).setCell ⟨w.heap.size+1,7,none⟩ (.int .i64 m4)):=⟨_,rfl⟩
 rw[←hF]
 have hr:F.heap[w.heap.size+1]?=some (.cells #[.int .i64 k,.string s,.string t,.int .i64 m0,.int .i64 m1,.int .i64 m2,.int .i64 m3,.int .i64 m4] 42 (0,0)):=by rw[hF];exact wF HG5.out (.int .i64 k) (.string s) (.string t) (.int .i64 m0) (.int .i64 m1) (.int .i64 m2) (.int .i64 m3) (.int .i64 m4)
 have hbF:Below w.heap.size w F:=by rw[hF];exact mA HB5.out (Nat.le_succ _) (.int .i64 k) (.string s) (.string t) (.int .i64 m0) (.int .i64 m1) (.int .i64 m2) (.int .i64 m3) (.int .i64 m4)
 have c0:F.cell? ⟨w.heap.size+1,0,none⟩=some (.int .i64 k):=aA hr 0
 have c1:F.cell? ⟨w.heap.size+1,1,none⟩=some (.string s):=aA hr 1
 have c2:F.cell? ⟨w.heap.size+1,2,none⟩=some (.string t):=aA hr 2
 have c3:F.cell? ⟨w.heap.size+1,3,none⟩=some (.int .i64 m0):=aA hr 3
 have c4:F.cell? ⟨w.heap.size+1,4,none⟩=some (.int .i64 m1):=aA hr 4
 have c5:F.cell? ⟨w.heap.size+1,5,none⟩=some (.int .i64 m2):=aA hr 5
 have c6:F.cell? ⟨w.heap.size+1,6,none⟩=some (.int .i64 m3):=aA hr 6
 have c7:F.cell? ⟨w.heap.size+1,7,none⟩=some (.int .i64 m4):=aA hr 7
 clear hF hr g0 g1 g2 g3 g4 g5 g6 g7 gf gl
 exact bodyPost_ret (v:=.tuple #[.agg #[.int .i64 k,.string s,.string t,.int .i64 m0,.int .i64 m1,.int .i64 m2,.int .i64 m3,.int .i64 m4],.bool true]) (by simp[results,results188,go_sem,c0,c1,c2,c3,c4,c5,c6,c7]) rfl ⟨rfl,hbF⟩
def dCm:En Cmd:=⟨fun c=>[.int .i64 c.k,.string c.s,.string c.t,.int .i64 c.n0,.int .i64 c.n1,.int .i64 c.n2,.int .i64 c.n3,.int .i64 c.n4],8,by omega,fun _=>rfl,fun x u hu=>by simp at hu;rcases hu with rfl|rfl|rfl|rfl|rfl|rfl|rfl|rfl <;> rfl⟩
theorem aMr:(prog.info? 42).map (fun i=>(i.zero,i.size,i.bytes))=some (some (.agg #[.int .i64 0,.string ⟨#[]⟩,.string ⟨#[]⟩,.int .i64 0,.int .i64 0,.int .i64 0,.int .i64 0,.int .i64 0]),8,80):=by kernel_rfl
def aR (c:Cmd):Rec:=⟨c.k,[c.n0,c.n1,c.n2,c.n3,c.n4,(c.s.size:Int)],c.s++c.t⟩
def cmd0:Cmd:=⟨0,⟨#[]⟩,⟨#[]⟩,0,0,0,0,0⟩
theorem aM3 {L:List Cmd} {i:Nat} {c:Cmd} (h:L[i]?=some c):L.getD i cmd0=c:=by
 rw[List.getD_eq_getElem?_getD,h]
 rfl
theorem aKi {w:World} {A:Option Addr} {c:Nat} {xs:List Rk} (h:dRk.At w A c xs) (k:Nat) (x:Rk) (hx:xs[k]?=some x):
 ∃b off,A=some ⟨b,off,none⟩∧b<w.heap.size∧w.cell? ⟨b,off+k * 3,none⟩=some (.int .i64 x.k)∧w.cell? ⟨b,off+k * 3+1,none⟩=some (.slice x.A x.n x.c)∧w.cell? ⟨b,off+k * 3+2,none⟩=some (.string x.t):=by
 obtain⟨b,off,hA,hlt,hc⟩:=h.get k x hx
 exact⟨b,off,hA,hlt,hc 0 (by decide),hc 1 (by decide),hc 2 (by decide)⟩
theorem aNb (b:ByteArray):b.extract 0 b.size=b:=by
 apply ByteArray.ext
 apply Array.ext'
 rw[ByteArray.data_extract,Array.toList_extract,List.extract_eq_take_drop]
 show(b.data.toList.drop 0).take (b.data.size-0)=_
 rw[List.drop_zero,Nat.sub_zero,←Array.length_toList,List.take_length]
theorem aBf (i:Nat) (h:i≤1000):wrap64 ((i:Int)+1)=((i+1:Nat):Int):=by rw[Mem.w64 (by omega) (by omega)];omega
theorem aGp {w2 W5 Y w6:World} {A:Option Addr} {c:Nat} {xs:List Cmd} (hg:Y.grownBy w6 (Value.slice A xs.length c).ownBlock) (hpre:Below W5.heap.size W5 Y) (hb:Below w2.heap.size w2 W5) (ho:dCm.Own 42 W5 w2.heap.size A c xs):Below w2.heap.size w2 w6:=
 bV (aD hb hpre) hg (fun r hr=>(ho.row r hr).1)
theorem aOa {α:Type} (d:En α) (W:World) (e:TypeId) (cs:Array Value) (x:α) (hc:cs.toList=d.enc x) {q:Nat} (hq:q=W.heap.size):d.At (W.alloc (.cells cs e)) (some ⟨q,0,none⟩) 1 [x]:=by
 subst hq
 exact eU d W e cs x hc
structure Jour (L:List Cmd) (s:ByteArray) (ss hd:Nat→ByteArray):Prop where
 fr:nN L.length ss hd (fun i=>aR (L.getD i cmd0))
 st:ss 0=s
 ok:∀c∈L,lM (aR c).k (aR c).xs (aR c).t
theorem aGq (L:List Cmd) (N:Nat) (hN:L.length=N) (K p:ByteArray) (ss hd:Nat→ByteArray) (h:Jour L (K++p) ss hd) (w:World) (G:Gl w):
 Calls prog 102 #[.agg #[.string K,.string p]] w fun e w'=>∃A c,e=.returned (.tuple #[.slice A N c,.agg #[.string (K++p),.string ⟨#[]⟩],.int .i64 0])∧dCm.At w' A c L∧Below w.heap.size w w':=by
 obtain⟨i0,hi,iz,isz,iby⟩:=info_parts aMr
 have hst:=h.st
 have htp:=h.fr.top
 have hnm:=h.fr.num
 rw[hst] at htp
 have hkp:K.size+p.size≤100000:=by rw[←ByteArray.size_append];exact htp
 have HAL:Hid (∀W,Calls prog 187 #[.agg #[.string K,.string p]] W (Ret (.string (K++p)) W)):=Hd (fun W=>xM K p (by omega) W)
 have HSC:Hid (∀W,Gl W→Calls prog 186 #[.string (K++p)] W fun e w'=>∃A c vs,e=.returned (.tuple #[.slice A N c,.int .i64 ((K++p).size:Int),.int .i64 0])∧vs.length=N∧dRk.At w' A c vs∧iB w' W.heap.size (fun i=>aR (L.getD i cmd0)) vs∧Below W.heap.size W w'):=Hd (fun W G=>by
  have:=aGi L.length ss hd _ h.fr W G
  rw[hst,hN] at this
  exact this)
 have HCT:Hid (∀W,Calls prog 189 #[.agg #[.string K,.string p],.int .i64 ((K++p).size:Int)] W (Ret (.agg #[.string (K++p),.string ⟨#[]⟩]) W)):=Hd (fun W=>aJi (K++p).size K p (K++p) (by omega) nR (aNb _) W)
 have HOK:=Hd h.ok
 have HLN:=Hd hN
 have HN100:Hid (N≤100):=Hd (by omega)
 have HG:=Hd G
 generalize K++p=Kp at *
 clear h hst htp hnm hkp hN G
 obtain⟨v,hv⟩:∃v,v=(w.alloc (.cells #[.string K,.string p] 112)).alloc (.cells #[.string ⟨#[]⟩,.string ⟨#[]⟩] 208):=⟨_,rfl⟩
 have HVS:Hid (v.heap.size=w.heap.size+1+1):=Hd (by rw[hv];simp)
 have HBv:Hid (Below w.heap.size w v):=Hd (by rw[hv];exact aB (aB bR _) _)
 have HV1:Hid (v.heap[w.heap.size]?=some (.cells #[.string K,.string p] 112 (0,0))):=Hd (by rw[hv];exact(Below.heap_alloc _ _ _ (by simp)).trans (aN w _))
 have HV2:Hid (v.heap[w.heap.size+1]?=some (.cells #[.string ⟨#[]⟩,.string ⟨#[]⟩] 208 (0,0))):=Hd (by
  rw[hv]
  have:=aN (w.alloc (.cells #[.string K,.string p] 112)) (.cells #[.string ⟨#[]⟩,.string ⟨#[]⟩] 208)
  simpa using this)
 have a0:=aA HV1.out 0
 have a1:=aA HV1.out 1
 go_enter func102,ntmps102
 go_upto_region 1 with(fail)
 change Code.wp _ _ _ _ ((w.alloc (.cells #[.string K,.string p] 112)).alloc (.cells #[.string ⟨#[]⟩,.string ⟨#[]⟩] 208))
 rw[←hv]
 clear hv
 go_wp2_with (first
  |(go_at_call 187;go_must (refine rB v (HAL.out _) ?_;intro W1 HB1))
  |(go_at_call 186;go_must (refine(HSC.out _ ((HG.out.below HBv.out).below blw)).mono ?_;rintro e W2 ⟨RA,rc,vs,rfl,hvl,hat,hro,hb⟩;have HB2:=bst v hb;have HVL:=Hd hvl;have HAT:=Hd hat;have HRO:Hid (iB W2 0 (fun i=>aR (L.getD i cmd0)) vs):=Hd (fun i v hv=>by have:=hro i v hv;exact⟨this.1,this.2.1,this.2.2.1,this.2.2.2.lower (Nat.zero_le _)⟩);clear hvl hat hro hb)))
 clear a0 a1
 go_loopw [2,24] (fun ov iv wr=>∃(i:Nat) (A:Option Addr) (c:Nat),i≤N∧iv=.int .i64 i∧ov=.slice A i c∧Hid (dCm.Own 42 wr W2.heap.size A c (L.take i))∧Hid (Below W2.heap.size W2 wr)) (fun _ iv _=>N-(intOf iv).toNat)
 case atStart=>exact⟨0,none,0,Nat.zero_le _,rfl,rfl,Hd (En.Own.none_ _ _ _),Hd bR⟩
 case round=>
  obtain⟨i,A,c,him,rfl,rfl,HOW,HB⟩:=hrel
  obtain⟨V,hv⟩:∃x,x=wr:=⟨_,rfl⟩
  subst hv
  by_cases hlt:i<N
  ·have hx:vs[i]?=some (vs[i]'(by have:=HVL.out;omega)):=gE _
   have hc:L[i]?=some (L[i]'(by have:=HLN.out;omega)):=gE _
   obtain⟨b,off,rfl,hbl,e0,e1,e2⟩:=aKi (HAT.out.below HB.out) i _ hx
   obtain⟨r1,r2,r3,r4⟩:=HRO.out.below HB.out i _ hx
   generalize vs[i]'(by have:=HVL.out;omega)=x at e0 e1 e2 r1 r2 r3 r4
   dsimp only at r1 r2 r3 r4
   rw[aM3 hc] at r1 r2 r3 r4
   have hok:=HOK.out _ (List.mem_of_getElem? hc)
   have HST:Hid (L.take (i+1)=L.take i++[L[i]'(by have:=HLN.out;omega)]):=Hd (List.take_succ_eq_append_getElem _)
   generalize L[i]'(by have:=HLN.out;omega)=cm at r1 r2 r3 r4 hok HST
   obtain⟨xk,xA,xn,xc,xt⟩:=x
   obtain⟨ck,cs,ct,n0,n1,n2,n3,n4⟩:=cm
   dsimp only[aR] at r1 r2 r3 r4 e0 e1 e2 hok
   change xn=6 at r2
   subst r1 r2 r3
   have HCM:Hid (∀W,Below V.heap.size V W→Calls prog 188 #[.agg #[.int .i64 xk,.slice xA 6 xc,.string (cs++ct)]] W (Ret (.tuple #[.agg #[.int .i64 xk,.string cs,.string ct,.int .i64 n0,.int .i64 n1,.int .i64 n2,.int .i64 n3,.int .i64 n4],.bool true]) W)):=Hd (fun W hW=>aNx xk cs ct n0 n1 n2 n3 n4 xA xc hok W (r4.at_.below hW))
   have HTL:Hid ((L.take i).length=i):=Hd (by rw[List.length_take,HLN.out];omega)
   have HZI:=Hd (aBf i (by have:=HN100.out;omega))
   have HLT:=Hd hlt
   have zlt:(i:Int)<(N:Int):=by omega
   generalize cs++ct=cst at *
   clear hx hc hok r4 hlt
   go_wp2_with (first
    |(go_at_call 188;go_must (refine rB V (HCM.out _ blw) ?_;intro W5 HB5))
    |(at_builtin;go_must (refine aV dCm _ rfl _ _ 206 rfl W2.heap.size 42 i0 _ 80 underlying206 hi iz isz iby rfl A c _ (L.take i) rfl HTL.out.symm ?_ _ 1 1 [⟨xk,cs,ct,n0,n1,n2,n3,n4⟩] rfl rfl ?_ ?_ ?_ ?_ ?_;(exact(HOW.out.below HB5.out).below blw);(exact aOa dCm _ 42 _ ⟨xk,cs,ct,n0,n1,n2,n3,n4⟩ rfl (by simp));(rw[HTL.out];have:=HN100.out;have:=HLT.out;simp;omega);(rw[HTL.out];have:=HN100.out;have:=HLT.out;simp;omega);(exact Nat.le_trans HB.out.size (Nat.le_trans HB5.out.size (show Below W5.heap.size W5 _ from blw).size));(intro A6 c6 w6 hown hg hat;have HO6:Hid (dCm.Own 42 w6 W2.heap.size A6 c6 (L.take (i+1))):=Hd (by rw[HST.out];exact hown);have HB6:Hid (Below W2.heap.size W2 w6):=Hd (aGp hg blw (aD HB.out HB5.out) (HOW.out.below HB5.out));have HLN6:Hid ((L.take i++[(⟨xk,cs,ct,n0,n1,n2,n3,n4⟩:Cmd)]).length=i+1):=Hd (by rw[lA,HTL.out];rfl);rw[HLN6.out];clear hown hg hat))))
   go_roundw
   case rel=>exact⟨i+1,A6,c6,HLT.out,(by first|rw[HZI.out]|rfl|simp),rfl,HO6,HB6⟩
   case measure=>(try rw[HZI.out]);exact kG HLT.out
  ·obtain rfl:i=N:=by omega
   have HVV:Hid (Below v.heap.size v V):=Hd (aD HB2.out HB.out)
   have hr1:=(HVV.out.block _ (gLt HV1.out)).trans HV1.out
   have a0:=aA hr1 0
   have a1:=aA hr1 1
   have HOL:Hid (dCm.Own 42 V W2.heap.size A c L):=Hd (by have:=HOW.out;rwa [←HLN.out,List.take_length] at this)
   have HQ:Hid (w.heap.size+1<W2.heap.size):=Hd (Nat.lt_of_lt_of_le (gLt HV2.out) HB2.out.size)
   clear hr1 hlt
   go_wp2_with (go_at_call 189;go_must (refine rC V (HCT.out _) ?_;intro W7 hb HB7;have hr2:=(HB7.out.block _ (Nat.lt_of_lt_of_le (gLt HV2.out) HVV.out.size)).trans ((HVV.out.block _ (gLt HV2.out)).trans HV2.out);have d0:=aA hr2 0;have d1:=aA hr2 1;have df:∀o,W7.frozen? ⟨w.heap.size+1,o,none⟩=false:=fun o=>fH hr2 o;have dl:=(gLt hr2);clear hb hr2))
   exact bodyPost_ret (v:=.tuple #[.slice A i c,.agg #[.string Kp,.string ⟨#[]⟩],.int .i64 0]) (by simp[results,results102,go_sem, *]) rfl ⟨A,c,rfl,(((HOL.out.below HB7.out).far (p:=⟨w.heap.size+1,0,none⟩) HQ.out _).far (p:=⟨w.heap.size+1,1,none⟩) HQ.out _).at_,aF (p:=⟨w.heap.size+1,1,none⟩) (aF (p:=⟨w.heap.size+1,0,none⟩) (aD HBv.out (aD HVV.out HB7.out)) (Nat.le_succ _) _) (Nat.le_succ _) _⟩
abbrev eP:ByteArray:=⟨#[99,117,116,40,108,111,119,101,115,116,44,32,49,48,48,48,41]⟩
abbrev cfgW:List ByteArray:=[⟨#[109,117,103]⟩,⟨#[49,46,48,48]⟩,⟨#[57,46,48,48]⟩,⟨#[48,46,48,48]⟩,⟨#[48]⟩,⟨#[48,46,48,48]⟩,⟨#[99,117,116,40,108,111,119,101,115,116,44,32,49,48,48,48,41]⟩]
def aJy:Nat→Array Value
 |0=>#[.int .i64 2,.string aX,.string eP,.int .i64 0,.int .i64 0,.int .i64 0,.int .i64 0,.int .i64 0]
 |1=>#[.int .i64 2,.string aX,.string eP,.int .i64 100,.int .i64 0,.int .i64 0,.int .i64 0,.int .i64 0]
 |2=>#[.int .i64 2,.string aX,.string eP,.int .i64 100,.int .i64 900,.int .i64 0,.int .i64 0,.int .i64 0]
 |3=>#[.int .i64 2,.string aX,.string eP,.int .i64 100,.int .i64 900,.int .i64 0,.int .i64 0,.int .i64 0]
 |4=>#[.int .i64 2,.string aX,.string eP,.int .i64 100,.int .i64 900,.int .i64 0,.int .i64 0,.int .i64 0]
 |_=>#[.int .i64 2,.string aX,.string eP,.int .i64 100,.int .i64 900,.int .i64 0,.int .i64 0,.int .i64 0]
theorem aQg:Ent 255:=enters_of func255 (by kernel_rfl) rfl
theorem aQj:Ent 198:=enters_of func198 (by kernel_rfl) rfl
theorem aHz (A:Option Addr) (c:Nat) (w:World) (G:Gl w) (hat:dT.At w A c cfgW):Calls prog 193 #[.slice A 7 c] w (Ret (.tuple #[eZ 2 aX eP 100 900 0 0 0,.bool true]) w):=by
 have he1:∀args W,(callFunc 255 args).run prog W=.ok (.enter 255 args) W:=aQg
 have he2:∀args W,(callFunc 198 args).run prog W=.ok (.enter 198 args) W:=aQj
 have HA0:Hid (∀W,Gl W→Calls prog 255 #[.string ⟨#[49,46,48,48]⟩] W (Ret (.tuple #[.int .i64 100,.bool true]) W)):=Hd (fun W G=>kO ⟨#[49,46,48,48]⟩ (by decide) 100 (by decide +kernel) (by decide) W G)
 have HA1:Hid (∀W,Gl W→Calls prog 255 #[.string ⟨#[57,46,48,48]⟩] W (Ret (.tuple #[.int .i64 900,.bool true]) W)):=Hd (fun W G=>kO ⟨#[57,46,48,48]⟩ (by decide) 900 (by decide +kernel) (by decide) W G)
 have HA2:Hid (∀W,Gl W→Calls prog 255 #[.string ⟨#[48,46,48,48]⟩] W (Ret (.tuple #[.int .i64 0,.bool true]) W)):=Hd (fun W G=>kO ⟨#[48,46,48,48]⟩ (by decide) 0 (by decide +kernel) (by decide) W G)
 have HA3:Hid (∀W,Gl W→Calls prog 198 #[.string ⟨#[48]⟩] W (Ret (.tuple #[.int .i64 0,.bool true]) W)):=Hd (fun W G=>aB0 ⟨#[48]⟩ (by decide) 0 (by decide +kernel) (by decide) W G)
 have HA4:Hid (∀W,Gl W→Calls prog 255 #[.string ⟨#[48,46,48,48]⟩] W (Ret (.tuple #[.int .i64 0,.bool true]) W)):=Hd (fun W G=>kO ⟨#[48,46,48,48]⟩ (by decide) 0 (by decide +kernel) (by decide) W G)
 have HG:=Hd G
 obtain⟨b,off,rfl,hbl,e0⟩:=dD hat 0 _ rfl
 obtain⟨_,_,h1,_,e1⟩:=dD hat 1 _ rfl
 cases h1
 obtain⟨_,_,h2,_,e2⟩:=dD hat 2 _ rfl
 cases h2
 obtain⟨_,_,h3,_,e3⟩:=dD hat 3 _ rfl
 cases h3
 obtain⟨_,_,h4,_,e4⟩:=dD hat 4 _ rfl
 cases h4
 obtain⟨_,_,h5,_,e5⟩:=dD hat 5 _ rfl
 cases h5
 obtain⟨_,_,h6,_,e6⟩:=dD hat 6 _ rfl
 cases h6
 rw[Nat.add_zero] at e0
 have HE:Hid (w.cell? ⟨b,off,none⟩=some (.string aX)∧w.cell? ⟨b,off+1,none⟩=some (.string ⟨#[49,46,48,48]⟩)∧w.cell? ⟨b,off+2,none⟩=some (.string ⟨#[57,46,48,48]⟩)∧w.cell? ⟨b,off+3,none⟩=some (.string ⟨#[48,46,48,48]⟩)∧w.cell? ⟨b,off+4,none⟩=some (.string ⟨#[48]⟩)∧w.cell? ⟨b,off+5,none⟩=some (.string ⟨#[48,46,48,48]⟩)∧w.cell? ⟨b,off+6,none⟩=some (.string eP)):=Hd ⟨e0,e1,e2,e3,e4,e5,e6⟩
 clear hat e0 e1 e2 e3 e4 e5 e6 G
 go_enter func193,ntmps193
 go_upto_region 1 with(fail)
 obtain⟨X,hX⟩:∃X,X=w.alloc (.cells #[.int .i64 0,.string ⟨#[]⟩,.string ⟨#[]⟩,.int .i64 0,.int .i64 0,.int .i64 0,.int .i64 0,.int .i64 0] 42):=⟨_,rfl⟩
 have hr:X.heap[w.heap.size]?=some (.cells #[.int .i64 0,.string ⟨#[]⟩,.string ⟨#[]⟩,.int .i64 0,.int .i64 0,.int .i64 0,.int .i64 0,.int .i64 0] 42 (0,0)):=by rw[hX];exact aN w _
 have HBX:Hid (Below w.heap.size w X):=Hd (by rw[hX];exact aB bR _)
 have HXS:Hid (X.heap.size=w.heap.size+1):=Hd (by rw[hX];simp)
 have HRX:=Hd hr
 rw[←hX]
 have x0:=aC HBX.out HE.out.1
 have x6:=aC HBX.out HE.out.2.2.2.2.2.2
 have hb2:b<X.heap.size:=Nat.lt_of_lt_of_le hbl HBX.out.size
 have n0:b≠X.heap.size:=by omega
 clear hX hr
 go_cut [4] (fun q wx=>q=.pointer (some ⟨X.heap.size,0,none⟩)∧Hid (wx.heap[X.heap.size]?=some (.cells (aJy 0) 42 (0,0)))∧Hid (Below X.heap.size X wx))
 case first=>
  go_region_with (fail)
  all_goals go_wp2_with fail
  all_goals go_meet
  all_goals exact⟨rfl,Hd (aN X _),Hd blw⟩
 case rest=>
 obtain⟨rfl,HR0,HB0⟩:=hcut
 obtain⟨W4,hwc⟩:∃w,w=wc:=⟨_,rfl⟩
 subst hwc
 clear x0 x6
 go_wp2_with fail
 go_loopw [16] (fun iv wr=>∃i:Nat,i≤5∧iv=.int .i64 i∧Hid (wr.heap[X.heap.size]?=some (.cells (aJy i) 42 (0,0)))∧Hid (Below X.heap.size X wr)) (fun iv _=>5-(intOf iv).toNat)
 case atStart=>exact⟨0,by omega,rfl,HR0,HB0⟩
 case round=>
  obtain⟨i,him,rfl,HR,HB⟩:=hrel
  obtain⟨V,hv⟩:∃x,x=wr:=⟨_,rfl⟩
  subst hv
  match i,him with
  |0,_=>
   have k0:=aC (HBX.out.trans (aP HB.out HBX.out.size)) HE.out.2.1
   have HGV:Hid (Gl V):=Hd (HG.out.below (HBX.out.trans (aP HB.out HBX.out.size)))
   have hbv:b<V.heap.size:=bL V _ k0
   go_wp2_with (go_at_call 255;go_must (refine rC V (HA0.out _ (HGV.out.below blw)) ?_;intro W5 hb HB5;have hr5:W5.heap[X.heap.size]?=some (.cells #[.int .i64 2,.string aX,.string eP,.int .i64 0,.int .i64 0,.int .i64 0,.int .i64 0,.int .i64 0] 42 (0,0)):=(HB5.out.block _ (gLt HR.out)).trans HR.out;have dj:=aA hr5 3;have df:∀o,W5.frozen? ⟨X.heap.size,o,none⟩=false:=fun o=>fH hr5 o;have dl:=(gLt hr5);have HR5:=Hd hr5;clear hb hr5))
   go_roundw
   case rel=>exact⟨1,by omega,(by first|rfl|simp),Hd (aE W5 _ 3 _ 42 _ HR5.out),Hd (aF (p:=⟨X.heap.size,3,none⟩) (aD HB.out HB5.out) nR _)⟩
   case measure=>simp[intOf]
  |1,_=>
   have k1:=aC (HBX.out.trans (aP HB.out HBX.out.size)) HE.out.2.2.1
   have HGV:Hid (Gl V):=Hd (HG.out.below (HBX.out.trans (aP HB.out HBX.out.size)))
   have hbv:b<V.heap.size:=bL V _ k1
   go_wp2_with (go_at_call 255;go_must (refine rC V (HA1.out _ (HGV.out.below blw)) ?_;intro W5 hb HB5;have hr5:W5.heap[X.heap.size]?=some (.cells #[.int .i64 2,.string aX,.string eP,.int .i64 100,.int .i64 0,.int .i64 0,.int .i64 0,.int .i64 0] 42 (0,0)):=(HB5.out.block _ (gLt HR.out)).trans HR.out;have dj:=aA hr5 4;have df:∀o,W5.frozen? ⟨X.heap.size,o,none⟩=false:=fun o=>fH hr5 o;have dl:=(gLt hr5);have HR5:=Hd hr5;clear hb hr5))
   go_roundw
   case rel=>exact⟨2,by omega,(by first|rfl|simp),Hd (aE W5 _ 4 _ 42 _ HR5.out),Hd (aF (p:=⟨X.heap.size,4,none⟩) (aD HB.out HB5.out) nR _)⟩
   case measure=>simp[intOf]
  |2,_=>
   have k2:=aC (HBX.out.trans (aP HB.out HBX.out.size)) HE.out.2.2.2.1
   have HGV:Hid (Gl V):=Hd (HG.out.below (HBX.out.trans (aP HB.out HBX.out.size)))
   have hbv:b<V.heap.size:=bL V _ k2
   go_wp2_with (go_at_call 255;go_must (refine rC V (HA2.out _ (HGV.out.below blw)) ?_;intro W5 hb HB5;have hr5:W5.heap[X.heap.size]?=some (.cells #[.int .i64 2,.string aX,.string eP,.int .i64 100,.int .i64 900,.int .i64 0,.int .i64 0,.int .i64 0] 42 (0,0)):=(HB5.out.block _ (gLt HR.out)).trans HR.out;have dj:=aA hr5 5;have df:∀o,W5.frozen? ⟨X.heap.size,o,none⟩=false:=fun o=>fH hr5 o;have dl:=(gLt hr5);have HR5:=Hd hr5;clear hb hr5))
   go_roundw
   case rel=>exact⟨3,by omega,(by first|rfl|simp),Hd (aE W5 _ 5 _ 42 _ HR5.out),Hd (aF (p:=⟨X.heap.size,5,none⟩) (aD HB.out HB5.out) nR _)⟩
   case measure=>simp[intOf]
  |3,_=>
   have k3:=aC (HBX.out.trans (aP HB.out HBX.out.size)) HE.out.2.2.2.2.1
   have HGV:Hid (Gl V):=Hd (HG.out.below (HBX.out.trans (aP HB.out HBX.out.size)))
   have hbv:b<V.heap.size:=bL V _ k3
   go_wp2_with (go_at_call 198;go_must (refine rC V (HA3.out _ (HGV.out.below blw)) ?_;intro W5 hb HB5;have hr5:W5.heap[X.heap.size]?=some (.cells #[.int .i64 2,.string aX,.string eP,.int .i64 100,.int .i64 900,.int .i64 0,.int .i64 0,.int .i64 0] 42 (0,0)):=(HB5.out.block _ (gLt HR.out)).trans HR.out;have dj:=aA hr5 6;have df:∀o,W5.frozen? ⟨X.heap.size,o,none⟩=false:=fun o=>fH hr5 o;have dl:=(gLt hr5);have HR5:=Hd hr5;clear hb hr5))
   go_roundw
   case rel=>exact⟨4,by omega,(by first|rfl|simp),Hd (aE W5 _ 6 _ 42 _ HR5.out),Hd (aF (p:=⟨X.heap.size,6,none⟩) (aD HB.out HB5.out) nR _)⟩
   case measure=>simp[intOf]
  |4,_=>
   have k4:=aC (HBX.out.trans (aP HB.out HBX.out.size)) HE.out.2.2.2.2.2.1
   have HGV:Hid (Gl V):=Hd (HG.out.below (HBX.out.trans (aP HB.out HBX.out.size)))
   have hbv:b<V.heap.size:=bL V _ k4
   go_wp2_with (go_at_call 255;go_must (refine rC V (HA4.out _ (HGV.out.below blw)) ?_;intro W5 hb HB5;have hr5:W5.heap[X.heap.size]?=some (.cells #[.int .i64 2,.string aX,.string eP,.int .i64 100,.int .i64 900,.int .i64 0,.int .i64 0,.int .i64 0] 42 (0,0)):=(HB5.out.block _ (gLt HR.out)).trans HR.out;have dj:=aA hr5 7;have df:∀o,W5.frozen? ⟨X.heap.size,o,none⟩=false:=fun o=>fH hr5 o;have dl:=(gLt hr5);have HR5:=Hd hr5;clear hb hr5))
   go_roundw
   case rel=>exact⟨5,by omega,(by first|rfl|simp),Hd (aE W5 _ 7 _ 42 _ HR5.out),Hd (aF (p:=⟨X.heap.size,7,none⟩) (aD HB.out HB5.out) nR _)⟩
   case measure=>simp[intOf]
  |5,_=>
   have hr:V.heap[X.heap.size]?=some (.cells #[.int .i64 2,.string aX,.string eP,.int .i64 100,.int .i64 900,.int .i64 0,.int .i64 0,.int .i64 0] 42 (0,0)):=HR.out
   have hr2:=(HB.out.block _ (gLt HRX.out)).trans HRX.out
   have g0:=aA hr 0
   have g1:=aA hr 1
   have g2:=aA hr 2
   have g3:=aA hr 3
   have g4:=aA hr 4
   have g5:=aA hr 5
   have g6:=aA hr 6
   have g7:=aA hr 7
   have h0:=aA hr2 0
   have h1:=aA hr2 1
   have h2:=aA hr2 2
   have h3:=aA hr2 3
   have h4:=aA hr2 4
   have h5:=aA hr2 5
   have h6:=aA hr2 6
   have h7:=aA hr2 7
   have gl:=(gLt hr)
   have hl:=(gLt hr2)
   have hf:∀o,V.frozen? ⟨w.heap.size,o,none⟩=false:=fun o=>fH hr2 o
   go_wp2_with fail
   obtain⟨F,hF⟩:∃F,F=((((((((V.setCell ⟨w.heap.size,0,none⟩ (.int .i64 2)).setCell ⟨w.heap.size,1,none⟩ (.string aX)).setCell ⟨w.heap.size,2,none⟩ (.string eP)).setCell ⟨w.heap.size,3,none⟩ (.int .i64 100)).setCell ⟨w.heap.size,4,none⟩ (.int .i64 900)).setCell ⟨w.heap.size,5,none⟩ (.int .i64 0)).setCell ⟨w.heap.size,6,none⟩ (.int .i64 0)).setCell ⟨w.heap.size,7,none⟩ (.int .i64 0)):=⟨_,rfl⟩
   rw[←hF]
   have hrF:F.heap[w.heap.size]?=some (.cells #[.int .i64 2,.string aX,.string eP,.int .i64 100,.int .i64 900,.int .i64 0,.int .i64 0,.int .i64 0] 42 (0,0)):=by rw[hF];exact wF hr2 (.int .i64 2) (.string aX) (.string eP) (.int .i64 100) (.int .i64 900) (.int .i64 0) (.int .i64 0) (.int .i64 0)
   have hbF:Below w.heap.size w F:=by rw[hF];exact mA (HBX.out.trans (aP HB.out HBX.out.size)) nR (.int .i64 2) (.string aX) (.string eP) (.int .i64 100) (.int .i64 900) (.int .i64 0) (.int .i64 0) (.int .i64 0)
   have c0:F.cell? ⟨w.heap.size,0,none⟩=some (.int .i64 2):=aA hrF 0
   have c1:F.cell? ⟨w.heap.size,1,none⟩=some (.string aX):=aA hrF 1
   have c2:F.cell? ⟨w.heap.size,2,none⟩=some (.string eP):=aA hrF 2
   have c3:F.cell? ⟨w.heap.size,3,none⟩=some (.int .i64 100):=aA hrF 3
   have c4:F.cell? ⟨w.heap.size,4,none⟩=some (.int .i64 900):=aA hrF 4
   have c5:F.cell? ⟨w.heap.size,5,none⟩=some (.int .i64 0):=aA hrF 5
   have c6:F.cell? ⟨w.heap.size,6,none⟩=some (.int .i64 0):=aA hrF 6
   have c7:F.cell? ⟨w.heap.size,7,none⟩=some (.int .i64 0):=aA hrF 7
   clear hF hrF hr hr2 g0 g1 g2 g3 g4 g5 g6 g7 h0 h1 h2 h3 h4 h5 h6 h7 gl hl hf
   exact bodyPost_ret (v:=.tuple #[eZ 2 aX eP 100 900 0 0 0,.bool true]) (by simp[results,results193,go_sem,c0,c1,c2,c3,c4,c5,c6,c7]) rfl ⟨rfl,hbF⟩
theorem cutT {A:Option Addr} {c:Nat} {M:List ByteArray} {w:World} (h:dT.At w A c M) (hk:1≤M.length):
 ∃A2,(∀W,(Instr.slice 61 (.slice A M.length c) (some (.int .i64 1)) none none).run prog W=.ok (.slice A2 (M.length-1) (c-1)) W)∧dT.At w A2 (c-1) (M.drop 1):=by
 have hs:∀W,(sizeOf (prog.elem 61)).run prog W=.ok 1 W:=fun W=>by kernel_rfl
 refine⟨if c=1 then A else A.map (·.add (1 * 1)),fun W=>?_,?_⟩
 ·have:=run_slice_l (P:=prog) W 61 A M.length c (by kernel_rfl) .i64 1 (by omega) (by omega)
  rw[this,hs]
  simp[Result.andThen,sliced]
 ·obtain⟨b,off,rfl,hlt,hc⟩:=h.cell (by omega)
  refine h.drop 1 hk _ ?_
  show _=some (if c=1 then(⟨b,off,none⟩:Addr) else⟨b,off+1 * 1,none⟩)
  split <;> simp[Addr.add]
abbrev tS:ByteArray:=⟨#[102,101,101,100,32]⟩
abbrev cfgP:ByteArray:=⟨#[99,111,110,102,105,103,32]⟩
theorem oR (s p:ByteArray) (h:Lib.hasPrefix s.data.toList p.data.toList=false):∃q,∀W,Calls prog 191 #[.string s,.string p] W fun e w'=>e=.returned (.tuple #[.string q,.bool false])∧W=w':=
 ⟨_,fun W=>(Tryz.strings_CutPrefix s p W).mono (fun e w' ⟨h1,h2⟩=>⟨by rw[h1,h],h2.symm⟩)⟩
theorem yC {w:World} {A:Option Addr} {c:Nat} {xs:List (Int×Nat×Array Value)} (h:dFm.At w A c xs) (k:Nat) (x:Int×Nat×Array Value) (hx:xs[k]?=some x):
 ∃b off,A=some ⟨b,off,none⟩∧b<w.heap.size∧w.cell? ⟨b,off+k * 2,none⟩=some (.int .i64 x.1)∧w.cell? ⟨b,off+k * 2+1,none⟩=some (.func (.func x.2.1) #[] x.2.2):=by
 obtain⟨b,off,hA,hlt,hc⟩:=h.get k x hx
 exact⟨b,off,hA,hlt,hc 0 (by decide),hc 1 (by decide)⟩
theorem aO8 (W:World) {q i:Nat} (hn:i≠q) (u0 u1 u2 u3 u4 u5 u6 u7:Value):((((((((W.setCell ⟨q,0,none⟩ u0).setCell ⟨q,1,none⟩ u1).setCell ⟨q,2,none⟩ u2).setCell ⟨q,3,none⟩ u3).setCell ⟨q,4,none⟩ u4).setCell ⟨q,5,none⟩ u5).setCell ⟨q,6,none⟩ u6).setCell ⟨q,7,none⟩ u7).heap[i]?=W.heap[i]?:=by
 rw[aG _ ⟨q,7,none⟩ _ i hn,aG _ ⟨q,6,none⟩ _ i hn,aG _ ⟨q,5,none⟩ _ i hn,aG _ ⟨q,4,none⟩ _ i hn,aG _ ⟨q,3,none⟩ _ i hn,aG _ ⟨q,2,none⟩ _ i hn,aG _ ⟨q,1,none⟩ _ i hn,aG _ ⟨q,0,none⟩ _ i hn]
abbrev cmdC (k:Int) (nm:ByteArray) (n0 n1:Int):Array Value:=#[.int .i64 k,.string nm,.string ⟨#[]⟩,.int .i64 n0,.int .i64 n1,.int .i64 0,.int .i64 0,.int .i64 0]
abbrev Z42:Array Value:=#[.int .i64 0,.string ⟨#[]⟩,.string ⟨#[]⟩,.int .i64 0,.int .i64 0,.int .i64 0,.int .i64 0,.int .i64 0]
theorem aFh {j:Nat} {f:Fn} {x y:Array Value} (h:Z42[j]?=some (.func f x y)):False:=by
 match j with
 |0=>cases h
 |1=>cases h
 |2=>cases h
 |3=>cases h
 |4=>cases h
 |5=>cases h
 |6=>cases h
 |7=>cases h
 |n+8=>rw[Array.getElem?_eq_none (by simp)] at h;cases h
theorem uU (s w0:ByteArray) (ws:List ByteArray) (n:Nat) (hs:s.size≤1000) (hf:Lib.hasPrefix s.data.toList tS.data.toList=false) (hc:Lib.hasPrefix s.data.toList cfgP.data.toList=false) (hsp:Lib.splitB gG 0 (Lib.countB s gG) s=ws) (hcn:Lib.countB s gG+1=n) (hwl:ws.length=n) (h0:ws[0]?=some w0) (hn:n≤10)
 (m F N:Nat) (hm:n=m+1) (hN:1≤N∧N≤5) (he:Ent F) (Q:Array Value→World→Prop) (hQ:∀K W W',Q K W→Below W.heap.size W W'→Q K W')
 (hfm:∀W,Calls prog 194 #[.string w0] W fun e w'=>∃A c K fs,e=.returned (.slice A N c)∧dFm.At w' A c fs∧fs.length=N∧fs[0]?=some ((m:Int),F,K)∧(∀i x,fs[i+1]?=some x→∃r:Nat,x.1=(r:Int)∧r+1≠n∧r≤100)∧Q K w'∧Below W.heap.size W w')
 (k n0 n1:Int) (nm:ByteArray)
 (hcall:∀W A c K,Gl W→dT.At W A c (ws.drop 1)→Q K W→Calls prog F (#[.slice A m c]++K) W (Ret (.tuple #[eZ k nm ⟨#[]⟩ n0 n1 0 0 0,.bool true]) W))
 (w:World) (G:Gl w):Calls prog 104 #[.string s] w (Ret (.tuple #[eZ k nm ⟨#[]⟩ n0 n1 0 0 0,.bool true]) w):=by
 subst hm
 have hst:=fun(W:World) (a:Addr) (f:Fn) (x y:Array Value)=>aBm W a f x y
 have he2:∀args W,(callFunc F args).run prog W=.ok (.enter F args) W:=he
 obtain⟨q1,h1⟩:=oR s tS hf
 obtain⟨q2,h2⟩:=oR s cfgP hc
 have H1:=Hd h1
 have H2:=Hd h2
 have HSP:Hid (∀W,Gl W→Calls prog 125 #[.string s,.string gG] W fun e w'=>∃A c,e=.returned (.slice A (m+1) c)∧dT.Own 9 w' W.heap.size A c ws∧Below W.heap.size W w'):=Hd (fun W G=>mC s ws (m+1) (by omega) hsp hcn hwl (by omega) W G)
 have HFM:=Hd hfm
 have HCL:=Hd hcall
 have HWL:=Hd hwl
 have H0:=Hd h0
 have HN5:=Hd hN
 have HN10:=Hd hn
 have HQ:=Hd hQ
 have HG:=Hd G
 clear hs hf hc hsp hcn hwl h0 he hQ hfm hcall G h1 h2
 go_enter func104,ntmps104
 go_upto_region 4 with(go_at_call 191;go_must (refine(H1.out _).mono ?_;rintro e W1 ⟨rfl,rfl⟩))
 go_upto_region 9 with(go_at_call 191;go_must (refine(H2.out _).mono ?_;rintro e W1 ⟨rfl,rfl⟩))
 go_upto_region 10 with(go_at_call 125;go_must (refine(HSP.out _ (HG.out.below blw)).mono ?_;rintro e W1 ⟨WA,wc,rfl,hat,hb⟩;have HB1:=bst w hb;have hr1:W1.heap[w.heap.size]?=some (.cells Z42 42 (0,0)):=(hb.block _ (by simp)).trans (aN w _);have HR1:=Hd hr1;have HAT:=Hd hat.at_;clear hr1 hat hb))
 obtain⟨b,off,rfl,hbl,e0⟩:=dD HAT.out 0 _ H0.out
 rw[Nat.add_zero] at e0
 have zn:(0:Int)<((m+1:Nat):Int):=by omega
 go_wp2_with (go_at_call 194;go_must (refine(HFM.out _).mono ?_;rintro e W2 ⟨FA,fc,K,fs,rfl,hat,hfl,hf0,hfr,hq,hb⟩;have HB12:=bst W1 hb;have HFA:=Hd hat;have HFL:=Hd hfl;have HF0:=Hd hf0;have HFR:=Hd hfr;have HQK:=Hd hq;clear hat hfl hf0 hfr hq hb))
 go_loopw [3,43] (fun ok iv wr=>∃i:Nat,i≤N∧iv=.int .i64 i∧ok=.bool (decide (0<i))∧Hid (wr.heap[w.heap.size]?=some (.cells (if i=0 then Z42 else cmdC k nm n0 n1) 42 (0,0)))∧Hid (i=0→Below W2.heap.size W2 wr)∧Hid (dFm.At wr FA fc fs)∧Hid (Below w.heap.size w wr)) (fun _ iv _=>N-(intOf iv).toNat)
 case atStart=>exact⟨0,Nat.zero_le _,rfl,rfl,Hd ((HB12.out.block _ (gLt HR1.out)).trans HR1.out),Hd (fun _=>bR),HFA,Hd (aD HB1.out HB12.out)⟩
 case round=>
  obtain⟨i,him,rfl,rfl,HR,HZ,HFV,HB⟩:=hrel
  obtain⟨V,hv⟩:∃x,x=wr:=⟨_,rfl⟩
  subst hv
  clear zn e0 hbl
  by_cases hlt:i<N
  ·have HLT:=Hd hlt
   have HZI:=Hd (aBf i (by have:=HN5.out.2;omega))
   have zlt:(i:Int)<(N:Int):=by omega
   cases i with
   |zero=>
    have HZV:=Hd (HZ.out rfl)
    have hr0:V.heap[w.heap.size]?=some (.cells Z42 42 (0,0)):=HR.out
    obtain⟨g,go,rfl,gl,f0,f1⟩:=yC HFV.out 0 _ HF0.out
    rw[Nat.zero_mul,Nat.add_zero] at f0 f1
    dsimp only at f0 f1
    have hgne:g≠w.heap.size:=fun e=>by
     rw[e,aA hr0] at f1
     exact aFh f1
    have hatv:=(HAT.out.below HB12.out).below HZV.out
    obtain⟨A2,hsl,hat2⟩:=cutT hatv (by rw[HWL.out];omega)
    rw[HWL.out] at hsl
    rw[Nat.add_sub_cancel] at hsl
    have HA2:=Hd hat2
    have hw1:wrap64 ((m:Int)+1)=(m:Int)+1:=Mem.w64 (by omega) (by have:=HN10.out;omega)
    have HQV:=Hd (HQ.out _ _ _ HQK.out HZV.out)
    have HGV:Hid (Gl V):=Hd (HG.out.below HB.out)
    have HGN:=Hd hgne
    have HR0:=Hd hr0
    clear hatv hat2 hlt hr0
    go_upto_region 14 with(fail)
    obtain⟨X,hX⟩:∃X,X=V.alloc (.cells #[.int .i64 (m:Int),.func (.func F) #[] K] 299):=⟨_,rfl⟩
    have hrx:X.heap[V.heap.size]?=some (.cells #[.int .i64 (m:Int),.func (.func F) #[] K] 299 (0,0)):=by rw[hX];exact aN V _
    have HBX:Hid (Below V.heap.size V X):=Hd (by rw[hX];exact aB bR _)
    rw[←hX]
    clear hX f0 f1
    have x1:=aA hrx 1
    refine tW ?_
    go_cut [3] (fun okv wx=>okv=.bool true∧Hid (wx.heap[w.heap.size]?=some (.cells (cmdC k nm n0 n1) 42 (0,0)))∧Hid (Below w.heap.size w wx)∧Hid (dFm.At wx (some ⟨g,go,none⟩) fc fs))
    case first=>
     go_region_with (refine(HCL.out _ A2 (wc-1) K (HGV.out.below (aD HBX.out blw)) (HA2.out.below (aD HBX.out blw)) (HQ.out _ _ _ HQV.out (aD HBX.out blw))).mono ?_;rintro e W5 ⟨rfl,hb⟩;have HB5:Hid (Below V.heap.size V W5):=Hd (aD (aD HBX.out blw) hb);have hr5:=(HB5.out.block _ (gLt HR0.out)).trans HR0.out;have z0:=aA hr5 0;have z1:=aA hr5 1;have z2:=aA hr5 2;have z3:=aA hr5 3;have z4:=aA hr5 4;have z5:=aA hr5 5;have z6:=aA hr5 6;have z7:=aA hr5 7;have zf:∀o,W5.frozen? ⟨w.heap.size,o,none⟩=false:=fun o=>fH hr5 o;have zl:=(gLt hr5);have HR5:=Hd hr5;clear hb hr5)
     all_goals go_wp2_with fail
     all_goals go_meet
     all_goals exact⟨rfl,Hd (wF HR5.out (.int .i64 k) (.string nm) (.string ⟨#[]⟩) (.int .i64 n0) (.int .i64 n1) (.int .i64 0) (.int .i64 0) (.int .i64 0)),Hd (mA (aD HB.out HB5.out) nR (.int .i64 k) (.string nm) (.string ⟨#[]⟩) (.int .i64 n0) (.int .i64 n1) (.int .i64 0) (.int .i64 0) (.int .i64 0)),Hd (vK (HFV.out.below HB5.out) (fun b o f _ hA=>by cases hA;exact aO8 W5 HGN.out (.int .i64 k) (.string nm) (.string ⟨#[]⟩) (.int .i64 n0) (.int .i64 n1) (.int .i64 0) (.int .i64 0) (.int .i64 0)))⟩
    case rest=>
    obtain⟨rfl,HRC,HBC,HFC⟩:=hcut
    obtain⟨Y,hwc⟩:∃w,w=wc:=⟨_,rfl⟩
    subst hwc
    clear x1 hrx hw1 hsl
    go_wp2_with fail
    go_roundw
    case rel=>exact⟨1,HN5.out.1,(by first|rfl|simp),(by first|rfl|simp),Hd HRC.out,Hd (fun h=>absurd h (by decide)),HFC,HBC⟩
    case measure=>have:=HLT.out;simp[intOf];omega
   |succ j=>
    have hx:fs[j+1]?=some (fs[j+1]'(by have:=HFL.out;omega)):=gE _
    obtain⟨g,go,rfl,gl,f0,f1⟩:=yC HFV.out (j+1) _ hx
    obtain⟨r,hr1,hr2,hr3⟩:=HFR.out j _ hx
    generalize fs[j+1]'(by have:=HFL.out;omega)=x at f0 f1 hr1
    obtain⟨x1,xF,xK⟩:=x
    dsimp only at f0 f1 hr1
    subst hr1
    have hw1:wrap64 ((r:Int)+1)=(r:Int)+1:=Mem.w64 (by omega) (by omega)
    have hne:(((m+1:Nat):Int)==(r:Int)+1)=false:=bN (by omega)
    have hne2:decide (((m+1:Nat):Int)=(r:Int)+1)=false:=decide_eq_false (by omega)
    have hne3:decide ((m:Int)+1=(r:Int)+1)=false:=decide_eq_false (by omega)
    have hne4:((m:Int)+1==(r:Int)+1)=false:=bN (by omega)
    have hne5:¬(m=r):=by omega
    have hrow:V.heap[w.heap.size]?=some (.cells (cmdC k nm n0 n1) 42 (0,0)):=HR.out
    have HRW:=Hd hrow
    have HZJ:Hid (wrap64 ((j:Int)+1+1)=((j+1+1:Nat):Int)):=Hd (by have:=HZI.out;push_cast at this ⊢;exact this)
    clear hx hr2 hr3 hrow hlt
    go_wp2_with fail
    go_roundw
    case rel=>exact⟨j+1+1,HLT.out,(by first|rw[HZI.out]|rw[HZJ.out]|rfl|simp),(by first|rfl|simp),Hd ((Below.heap_alloc V _ _ (gLt HRW.out)).trans HRW.out),Hd (fun h=>absurd h (by omega)),Hd (HFV.out.below (aB bR _)),Hd (aB HB.out _)⟩
    case measure=>(first|rw[HZI.out]|rw[HZJ.out]|skip);exact kG HLT.out
  ·obtain rfl:i=N:=by omega
   have hr:V.heap[w.heap.size]?=some (.cells (cmdC k nm n0 n1) 42 (0,0)):=by
    have:=HR.out
    rwa [if_neg (by have:=HN5.out.1;omega)] at this
   have hok:decide (0<i)=true:=decide_eq_true HN5.out.1
   have HRX:=Hd hr
   have g0:=aA hr 0
   have g1:=aA hr 1
   have g2:=aA hr 2
   have g3:=aA hr 3
   have g4:=aA hr 4
   have g5:=aA hr 5
   have g6:=aA hr 6
   have g7:=aA hr 7
   have gl:=(gLt hr)
   have gf:∀o,V.frozen? ⟨w.heap.size,o,none⟩=false:=fun o=>fH HRX.out o
   rw[hok]
   clear hr hok hlt HR
   go_wp2_with fail
   obtain⟨Y,hY⟩:∃Y,Y=((((((((V.setCell ⟨w.heap.size,0,none⟩ (.int .i64 k)).setCell ⟨w.heap.size,1,none⟩ (.string nm)).setCell ⟨w.heap.size,2,none⟩ (.string ⟨#[]⟩)).setCell ⟨w.heap.size,3,none⟩ (.int .i64 n0)).setCell ⟨w.heap.size,4,none⟩ (.int .i64 n1)).setCell ⟨w.heap.size,5,none⟩ (.int .i64 0)).setCell ⟨w.heap.size,6,none⟩ (.int .i64 0)).setCell ⟨w.heap.size,7,none⟩ (.int .i64 0)):=⟨_,rfl⟩
   rw[←hY]
   have hrF:Y.heap[w.heap.size]?=some (.cells (cmdC k nm n0 n1) 42 (0,0)):=by rw[hY];exact wF HRX.out (.int .i64 k) (.string nm) (.string ⟨#[]⟩) (.int .i64 n0) (.int .i64 n1) (.int .i64 0) (.int .i64 0) (.int .i64 0)
   have hbF:Below w.heap.size w Y:=by rw[hY];exact mA HB.out nR (.int .i64 k) (.string nm) (.string ⟨#[]⟩) (.int .i64 n0) (.int .i64 n1) (.int .i64 0) (.int .i64 0) (.int .i64 0)
   have c0:Y.cell? ⟨w.heap.size,0,none⟩=some (.int .i64 k):=aA hrF 0
   have c1:Y.cell? ⟨w.heap.size,1,none⟩=some (.string nm):=aA hrF 1
   have c2:Y.cell? ⟨w.heap.size,2,none⟩=some (.string ⟨#[]⟩):=aA hrF 2
   have c3:Y.cell? ⟨w.heap.size,3,none⟩=some (.int .i64 n0):=aA hrF 3
   have c4:Y.cell? ⟨w.heap.size,4,none⟩=some (.int .i64 n1):=aA hrF 4
   have c5:Y.cell? ⟨w.heap.size,5,none⟩=some (.int .i64 0):=aA hrF 5
   have c6:Y.cell? ⟨w.heap.size,6,none⟩=some (.int .i64 0):=aA hrF 6
   have c7:Y.cell? ⟨w.heap.size,7,none⟩=some (.int .i64 0):=aA hrF 7
   clear hY hrF g0 g1 g2 g3 g4 g5 g6 g7 gl gf
   exact bodyPost_ret (v:=.tuple #[eZ k nm ⟨#[]⟩ n0 n1 0 0 0,.bool true]) (by simp[results,results104,go_sem,c0,c1,c2,c3,c4,c5,c6,c7]) rfl ⟨rfl,hbF⟩
end Go.Proofs.YtlibhkkckgkkkaaGreatDoor.Tf
namespace Go.Proofs.YtlibhkkckgkkkaaGreatDoor.Tf
open Go.RowKit Go.Proofs.YtlibhkkckgkkkaaGreatDoor.Mem Go.Proofs.YtlibhkkckgkkkaaGreatDoor.Boo
abbrev sL1:ByteArray:=⟨#[115,107,117,32,109,117,103,32,53,46,48,48]⟩
abbrev sL2:ByteArray:=⟨#[99,111,110,102,105,103,32,109,117,103,32,49,46,48,48,32,57,46,48,48,32,48,46,48,48,32,48,32,48,46,48,48,32,99,117,116,40,108,111,119,101,115,116,44,32,49,48,48,48,41]⟩
abbrev sL3:ByteArray:=⟨#[102,101,101,100,32,97,99,109,101,32,49,32,109,117,103,32,98,111,98,32,53,46,48,48]⟩
abbrev sL4:ByteArray:=⟨#[114,117,110]⟩
abbrev sL5:ByteArray:=⟨#[115,101,110,100]⟩
abbrev sL6:ByteArray:=⟨#[100,101,108,105,118,101,114,32,48]⟩
abbrev sL7:ByteArray:=⟨#[111,112,101,110]⟩
abbrev sL8:ByteArray:=⟨#[115,104,111,119,32,109,117,103]⟩
theorem aQf:Ent 256:=enters_of Tryz.func256 (by kernel_rfl) rfl
theorem sF {w':World} {A:Option Addr} {c m F:Nat} {K:Array Value} (h:dFm.At w' A c [((m:Int),F,K)]):∃fs,dFm.At w' A c fs∧fs.length=1∧fs[0]?=some ((m:Int),F,K)∧(∀i x,fs[i+1]?=some x→∃r:Nat,x.1=(r:Int)∧r+1≠m+1∧r≤100):=⟨_,h,rfl,rfl,fun i x hx=>by simp at hx⟩
theorem aPd (w:World) (G:Gl w):Calls Tryz.prog 104 #[.string sL1] w (Ret (.tuple #[eZ 1 aX ⟨#[]⟩ 500 0 0 0 0,.bool true]) w):=by
 refine uU sL1 ⟨#[115,107,117]⟩ [⟨#[115,107,117]⟩,aX,⟨#[53,46,48,48]⟩] 3 (by decide) (by decide +kernel) (by decide +kernel) (by decide +kernel) (by decide +kernel) rfl rfl (by decide) 2 256 1 rfl ⟨by decide,by decide⟩ aQf (fun K _=>K=#[]) (fun K W W' h _=>h) (fun W=>(aEi W).mono ?_) 1 500 0 aX ?_ w G
 ·rintro e w' ⟨A,c,rfl,hat,hb⟩
  obtain⟨fs,f1,f2,f3,f4⟩:=sF (m:=2) hat
  exact⟨A,c,_,fs,rfl,f1,f2,f3,f4,rfl,hb⟩
 ·rintro W A c K G hat rfl
  obtain⟨b,off,rfl,_,e0⟩:=dD hat 0 aX rfl
  obtain⟨_,_,h1,_,e1⟩:=dD hat 1 ⟨#[53,46,48,48]⟩ rfl
  cases h1
  exact aLz b off 2 c aX ⟨#[53,46,48,48]⟩ (by decide) 500 (by decide +kernel) (by decide) (by decide) W G (by simpa using e0) e1
theorem aPe (w:World) (G:Gl w):Calls Tryz.prog 104 #[.string sL4] w (Ret (.tuple #[eZ 5 ⟨#[]⟩ ⟨#[]⟩ 0 0 0 0 0,.bool true]) w):=by
 refine uU sL4 sL4 [sL4] 1 (by decide) (by decide +kernel) (by decide +kernel) (by decide +kernel) (by decide +kernel) rfl rfl (by decide) 0 299 1 rfl ⟨by decide,by decide⟩ aI2 (fun K W=>∃kb,K=#[.pointer (some ⟨kb,0,none⟩)]∧W.cell? ⟨kb,0,none⟩=some (.int .i64 5)) (fun K W W' ⟨kb,h1,h2⟩ hb=>⟨kb,h1,aC hb h2⟩) (fun W=>(aEj W).mono ?_) 5 0 0 ⟨#[]⟩ ?_ w G
 ·rintro e w' ⟨A,c,kb,rfl,hat,hk,hb⟩
  obtain⟨fs,f1,f2,f3,f4⟩:=sF (m:=0) hat
  exact⟨A,c,_,fs,rfl,f1,f2,f3,f4,⟨kb,rfl,hk⟩,hb⟩
 ·rintro W A c K G hat ⟨kb,rfl,hk⟩
  exact wJ 5 kb (.slice A 0 c) W hk
theorem aL0 (w:World) (G:Gl w):Calls Tryz.prog 104 #[.string sL5] w (Ret (.tuple #[eZ 6 ⟨#[]⟩ ⟨#[]⟩ 0 0 0 0 0,.bool true]) w):=by
 refine uU sL5 sL5 [sL5] 1 (by decide) (by decide +kernel) (by decide +kernel) (by decide +kernel) (by decide +kernel) rfl rfl (by decide) 0 299 1 rfl ⟨by decide,by decide⟩ aI2 (fun K W=>∃kb,K=#[.pointer (some ⟨kb,0,none⟩)]∧W.cell? ⟨kb,0,none⟩=some (.int .i64 6)) (fun K W W' ⟨kb,h1,h2⟩ hb=>⟨kb,h1,aC hb h2⟩) (fun W=>(aAc W).mono ?_) 6 0 0 ⟨#[]⟩ ?_ w G
 ·rintro e w' ⟨A,c,kb,rfl,hat,hk,hb⟩
  obtain⟨fs,f1,f2,f3,f4⟩:=sF (m:=0) hat
  exact⟨A,c,_,fs,rfl,f1,f2,f3,f4,⟨kb,rfl,hk⟩,hb⟩
 ·rintro W A c K G hat ⟨kb,rfl,hk⟩
  exact wJ 6 kb (.slice A 0 c) W hk
theorem aPf (w:World) (G:Gl w):Calls Tryz.prog 104 #[.string sL6] w (Ret (.tuple #[eZ 7 ⟨#[]⟩ ⟨#[]⟩ 0 0 0 0 0,.bool true]) w):=by
 refine uU sL6 ⟨#[100,101,108,105,118,101,114]⟩ [⟨#[100,101,108,105,118,101,114]⟩,⟨#[48]⟩] 2 (by decide) (by decide +kernel) (by decide +kernel) (by decide +kernel) (by decide +kernel) rfl rfl (by decide) 1 298 2 rfl ⟨by decide,by decide⟩ aQb (fun K W=>∃kb mb,K=#[.pointer (some ⟨kb,0,none⟩),.pointer (some ⟨mb,0,none⟩)]∧W.cell? ⟨kb,0,none⟩=some (.int .i64 7)∧W.cell? ⟨mb,0,none⟩=some (.int .i64 0)) (fun K W W' ⟨kb,mb,h1,h2,h3⟩ hb=>⟨kb,mb,h1,aC hb h2,aC hb h3⟩) (fun W=>(aEk W).mono ?_) 7 0 0 ⟨#[]⟩ ?_ w G
 ·rintro e w' ⟨A,c,kb,mb,rfl,hat,hk,hm,hb⟩
  refine⟨A,c,_,_,rfl,hat,rfl,rfl,fun i x hx=>?_,⟨kb,mb,rfl,hk,hm⟩,hb⟩
  cases i with
  |zero=>
   cases hx
   exact⟨2,rfl,by decide,by decide⟩
  |succ i=>simp at hx
 ·rintro W A c K G hat ⟨kb,mb,rfl,hk,hm⟩
  obtain⟨b,off,rfl,_,e0⟩:=dD hat 0 ⟨#[48]⟩ rfl
  exact aAn 7 0 kb mb b off 1 c ⟨#[48]⟩ (by decide) 0 (by decide +kernel) (by decide) (by decide) W G hk hm (by simpa using e0)
end Go.Proofs.YtlibhkkckgkkkaaGreatDoor.Tf
namespace Go.Proofs.YtlibhkkckgkkkaaGreatDoor.Tf
open Go.RowKit Go.Proofs.YtlibhkkckgkkkaaGreatDoor.Mem Go.Proofs.YtlibhkkckgkkkaaGreatDoor.Boo Go.Proofs.Tryz
abbrev jM:ByteArray:=⟨#[97,99,109,101,32,49,32,109,117,103,32,98,111,98,32,53,46,48,48]⟩
abbrev cfgT:ByteArray:=⟨#[109,117,103,32,49,46,48,48,32,57,46,48,48,32,48,46,48,48,32,48,32,48,46,48,48,32,99,117,116,40,108,111,119,101,115,116,44,32,49,48,48,48,41]⟩
abbrev cfgS:List ByteArray:=[⟨#[99,111,110,102,105,103]⟩,⟨#[109,117,103]⟩,⟨#[49,46,48,48]⟩,⟨#[57,46,48,48]⟩,⟨#[48,46,48,48]⟩,⟨#[48]⟩,⟨#[48,46,48,48]⟩,⟨#[99,117,116,40,108,111,119,101,115,116,44]⟩,⟨#[49,48,48,48,41]⟩]
theorem xN (s p q:ByteArray) (h:Lib.hasPrefix s.data.toList p.data.toList=true) (hq:(⟨(Lib.trimPrefix s.data.toList p.data.toList).toArray⟩:ByteArray)=q):∀W,Calls prog 191 #[.string s,.string p] W fun e w'=>e=.returned (.tuple #[.string q,.bool true])∧W=w':=
 fun W=>(Tryz.strings_CutPrefix s p W).mono (fun e w' ⟨h1,h2⟩=>⟨by rw[h1,h,hq],h2.symm⟩)
theorem aL1 (w:World):Calls prog 104 #[.string sL3] w (Ret (.tuple #[eZ 3 ⟨#[]⟩ jM 0 0 0 0 0,.bool true]) w):=by
 have H1:=Hd (xN sL3 tS jM (by decide +kernel) (by decide +kernel))
 have hr:(w.alloc (.cells Z42 42)).heap[w.heap.size]?=some (.cells Z42 42 (0,0)):=aN w _
 obtain⟨X,hX⟩:∃X,X=w.alloc (.cells Z42 42):=⟨_,rfl⟩
 rw[←hX] at hr
 have hbX:Below w.heap.size w X:=by rw[hX];exact aB bR _
 have g0:=aA hr 0
 have g1:=aA hr 1
 have g2:=aA hr 2
 have g3:=aA hr 3
 have g4:=aA hr 4
 have g5:=aA hr 5
 have g6:=aA hr 6
 have g7:=aA hr 7
 have gl:=(gLt hr)
 have gf:∀o,X.frozen? ⟨w.heap.size,o,none⟩=false:=fun o=>fH hr o
 have HR:=Hd hr
 have HB:=Hd hbX
 clear hr hbX
 go_enter func104,ntmps104
 go_upto_region 1 with(fail)
 change Code.wp _ _ _ _ (w.alloc (.cells Z42 42))
 rw[←hX]
 clear hX
 go_wp2_with (go_at_call 191;go_must (refine(H1.out _).mono ?_;rintro e W1 ⟨rfl,rfl⟩))
 clear g0 g1 g2 g3 g4 g5 g6 g7 gl gf
 obtain⟨Y,hY⟩:∃Y,Y=((((((((X.setCell ⟨w.heap.size,0,none⟩ (.int .i64 3)).setCell ⟨w.heap.size,1,none⟩ (.string ⟨#[]⟩)).setCell ⟨w.heap.size,2,none⟩ (.string jM)).setCell ⟨w.heap.size,3,none⟩ (.int .i64 0)).setCell ⟨w.heap.size,4,none⟩ (.int .i64 0)).setCell ⟨w.heap.size,5,none⟩ (.int .i64 0)).setCell ⟨w.heap.size,6,none⟩ (.int .i64 0)).setCell ⟨w.heap.size,7,none⟩ (.int .i64 0)):=⟨_,rfl⟩
 rw[←hY]
 have hrF:Y.heap[w.heap.size]?=some (.cells #[.int .i64 3,.string ⟨#[]⟩,.string jM,.int .i64 0,.int .i64 0,.int .i64 0,.int .i64 0,.int .i64 0] 42 (0,0)):=by rw[hY];exact wF HR.out (.int .i64 3) (.string ⟨#[]⟩) (.string jM) (.int .i64 0) (.int .i64 0) (.int .i64 0) (.int .i64 0) (.int .i64 0)
 have hbF:Below w.heap.size w Y:=by rw[hY];exact mA HB.out nR (.int .i64 3) (.string ⟨#[]⟩) (.string jM) (.int .i64 0) (.int .i64 0) (.int .i64 0) (.int .i64 0) (.int .i64 0)
 have c0:Y.cell? ⟨w.heap.size,0,none⟩=some (.int .i64 3):=aA hrF 0
 have c1:Y.cell? ⟨w.heap.size,1,none⟩=some (.string ⟨#[]⟩):=aA hrF 1
 have c2:Y.cell? ⟨w.heap.size,2,none⟩=some (.string jM):=aA hrF 2
 have c3:Y.cell? ⟨w.heap.size,3,none⟩=some (.int .i64 0):=aA hrF 3
 have c4:Y.cell? ⟨w.heap.size,4,none⟩=some (.int .i64 0):=aA hrF 4
 have c5:Y.cell? ⟨w.heap.size,5,none⟩=some (.int .i64 0):=aA hrF 5
 have c6:Y.cell? ⟨w.heap.size,6,none⟩=some (.int .i64 0):=aA hrF 6
 have c7:Y.cell? ⟨w.heap.size,7,none⟩=some (.int .i64 0):=aA hrF 7
 clear hY hrF
 exact bodyPost_ret (v:=.tuple #[eZ 3 ⟨#[]⟩ jM 0 0 0 0 0,.bool true]) (by simp[results,results104,go_sem,c0,c1,c2,c3,c4,c5,c6,c7]) rfl ⟨rfl,hbF⟩
theorem aBx (s w0:ByteArray) (ws:List ByteArray) (n:Nat) (hs:s.size≤1000) (hf:Lib.hasPrefix s.data.toList tS.data.toList=false) (hc:Lib.hasPrefix s.data.toList cfgP.data.toList=false) (hsp:Lib.splitB gG 0 (Lib.countB s gG) s=ws) (hcn:Lib.countB s gG+1=n) (hwl:ws.length=n) (h0:ws[0]?=some w0) (hn:n≤10)
 (hfm:∀W,Calls prog 194 #[.string w0] W fun e w'=>e=.returned (.slice none 0 0)∧Below W.heap.size W w') (w:World) (G:Gl w):Calls prog 104 #[.string s] w (Ret (.tuple #[eZ 0 ⟨#[]⟩ ⟨#[]⟩ 0 0 0 0 0,.bool false]) w):=by
 obtain⟨q1,h1⟩:=oR s tS hf
 obtain⟨q2,h2⟩:=oR s cfgP hc
 have H1:=Hd h1
 have H2:=Hd h2
 have HSP:Hid (∀W,Gl W→Calls prog 125 #[.string s,.string gG] W fun e w'=>∃A c,e=.returned (.slice A n c)∧dT.Own 9 w' W.heap.size A c ws∧Below W.heap.size W w'):=Hd (fun W G=>mC s ws n (by omega) hsp hcn hwl (by omega) W G)
 have HFM:=Hd hfm
 have H0:=Hd h0
 have HG:=Hd G
 have hn1:1≤n:=by
  cases ws with
  |nil=>cases h0
  |cons a r=>simp at hwl;omega
 have zn:(0:Int)<(n:Int):=by omega
 clear hs hf hc hsp hcn hwl h0 hfm G h1 h2 hn1
 go_enter func104,ntmps104
 go_upto_region 4 with(go_at_call 191;go_must (refine(H1.out _).mono ?_;rintro e W1 ⟨rfl,rfl⟩))
 go_upto_region 9 with(go_at_call 191;go_must (refine(H2.out _).mono ?_;rintro e W1 ⟨rfl,rfl⟩))
 go_upto_region 10 with(go_at_call 125;go_must (refine(HSP.out _ (HG.out.below blw)).mono ?_;rintro e W1 ⟨WA,wc,rfl,hat,hb⟩;have HB1:=bst w hb;have hr1:W1.heap[w.heap.size]?=some (.cells Z42 42 (0,0)):=(hb.block _ (by simp)).trans (aN w _);have HR1:=Hd hr1;have HAT:=Hd hat.at_;clear hr1 hat hb))
 obtain⟨b,off,rfl,hbl,e0⟩:=dD HAT.out 0 _ H0.out
 rw[Nat.add_zero] at e0
 go_wp2_with (go_at_call 194;go_must (refine rB W1 (HFM.out _) ?_;intro W2 HB12))
 have hr:=(HB12.out.block _ (gLt HR1.out)).trans HR1.out
 have HR:=Hd hr
 have HB:=Hd (aD HB1.out HB12.out)
 have g0:=aA hr 0
 have g1:=aA hr 1
 have g2:=aA hr 2
 have g3:=aA hr 3
 have g4:=aA hr 4
 have g5:=aA hr 5
 have g6:=aA hr 6
 have g7:=aA hr 7
 have gl:=(gLt hr)
 have gf:∀o,W2.frozen? ⟨w.heap.size,o,none⟩=false:=fun o=>fH HR.out o
 clear hr e0 hbl zn
 go_loopw [3,43] (fun ok iv wr=>ok=.bool false∧iv=.int .i64 0∧W2=wr) (fun _ _ _=>0)
 case atStart=>exact⟨rfl,rfl,rfl⟩
 case round=>
  obtain⟨rfl,rfl,rfl⟩:=hrel
  go_wp2_with fail
  clear g0 g1 g2 g3 g4 g5 g6 g7 gl gf
  obtain⟨Y,hY⟩:∃Y,Y=((((((((W2.setCell ⟨w.heap.size,0,none⟩ (.int .i64 0)).setCell ⟨w.heap.size,1,none⟩ (.string ⟨#[]⟩)).setCell ⟨w.heap.size,2,none⟩ (.string ⟨#[]⟩)).setCell ⟨w.heap.size,3,none⟩ (.int .i64 0)).setCell ⟨w.heap.size,4,none⟩ (.int .i64 0)).setCell ⟨w.heap.size,5,none⟩ (.int .i64 0)).setCell ⟨w.heap.size,6,none⟩ (.int .i64 0)).setCell ⟨w.heap.size,7,none⟩ (.int .i64 0)):=⟨_,rfl⟩
  rw[←hY]
  have hrF:Y.heap[w.heap.size]?=some (.cells #[.int .i64 0,.string ⟨#[]⟩,.string ⟨#[]⟩,.int .i64 0,.int .i64 0,.int .i64 0,.int .i64 0,.int .i64 0] 42 (0,0)):=by rw[hY];exact wF HR.out (.int .i64 0) (.string ⟨#[]⟩) (.string ⟨#[]⟩) (.int .i64 0) (.int .i64 0) (.int .i64 0) (.int .i64 0) (.int .i64 0)
  have hbF:Below w.heap.size w Y:=by rw[hY];exact mA HB.out nR (.int .i64 0) (.string ⟨#[]⟩) (.string ⟨#[]⟩) (.int .i64 0) (.int .i64 0) (.int .i64 0) (.int .i64 0) (.int .i64 0)
  have c0:Y.cell? ⟨w.heap.size,0,none⟩=some (.int .i64 0):=aA hrF 0
  have c1:Y.cell? ⟨w.heap.size,1,none⟩=some (.string ⟨#[]⟩):=aA hrF 1
  have c2:Y.cell? ⟨w.heap.size,2,none⟩=some (.string ⟨#[]⟩):=aA hrF 2
  have c3:Y.cell? ⟨w.heap.size,3,none⟩=some (.int .i64 0):=aA hrF 3
  have c4:Y.cell? ⟨w.heap.size,4,none⟩=some (.int .i64 0):=aA hrF 4
  have c5:Y.cell? ⟨w.heap.size,5,none⟩=some (.int .i64 0):=aA hrF 5
  have c6:Y.cell? ⟨w.heap.size,6,none⟩=some (.int .i64 0):=aA hrF 6
  have c7:Y.cell? ⟨w.heap.size,7,none⟩=some (.int .i64 0):=aA hrF 7
  clear hY hrF
  exact bodyPost_ret (v:=.tuple #[eZ 0 ⟨#[]⟩ ⟨#[]⟩ 0 0 0 0 0,.bool false]) (by simp[results,results104,go_sem,c0,c1,c2,c3,c4,c5,c6,c7]) rfl ⟨rfl,hbF⟩
theorem aPg (w:World) (G:Gl w):Calls prog 104 #[.string sL2] w (Ret (.tuple #[eZ 2 aX eP 100 900 0 0 0,.bool true]) w):=by
 obtain⟨q1,h1⟩:=oR sL2 tS (by decide +kernel)
 have H1:=Hd h1
 have H2:=Hd (xN sL2 cfgP cfgT (by decide +kernel) (by decide +kernel))
 have HSN:Hid (∀W,Gl W→Calls prog 192 #[.string cfgT,.string gG,.int .i64 7] W fun e w'=>∃A,e=.returned (.slice A 7 7)∧dT.At w' A 7 cfgW∧Below W.heap.size W w'):=Hd (fun W G=>by
  obtain⟨m0,hm0⟩:=G.ml
  refine(Tryz.strings_SplitN cfgT gG 7 m0 W (by decide) hm0 (by decide) (by decide) (by decide)).mono ?_
  rintro e w' ⟨rfl,rfl⟩
  rw[show Lib.splitB gG 0 (min 7 (cfgT.size+1)-1) cfgT=cfgW from by decide +kernel,show min 7 (cfgT.size+1)=7 from by decide,show Lib.cellsOf cfgW 7=(cfgW.map Value.string).toArray from by rfl]
  exact⟨_,rfl,(En.Own.lit dT W 0 9 _ cfgW (Nat.zero_le _) (by decide) (by rw[aJl])).at_,aB bR _⟩)
 have HCF:Hid (∀W A,Gl W→dT.At W A 7 cfgW→Calls prog 193 #[.slice A 7 7] W (Ret (.tuple #[eZ 2 aX eP 100 900 0 0 0,.bool true]) W)):=Hd (fun W A G h=>aHz A 7 W G h)
 have HSP:Hid (∀W,Gl W→Calls prog 125 #[.string sL2,.string gG] W fun e w'=>∃A c,e=.returned (.slice A 9 c)∧dT.Own 9 w' W.heap.size A c cfgS∧Below W.heap.size W w'):=Hd (fun W G=>mC sL2 cfgS 9 (by decide) (by decide +kernel) (by decide +kernel) rfl (by decide) W G)
 have HG:=Hd G
 clear h1 G
 go_enter func104,ntmps104
 go_upto_region 4 with(go_at_call 191;go_must (refine(H1.out _).mono ?_;rintro e W1 ⟨rfl,rfl⟩))
 go_upto_region 8 with(first
  |(go_at_call 191;go_must (refine(H2.out _).mono ?_;rintro e W1 ⟨rfl,rfl⟩))
  |(go_at_call 192;go_must (refine(HSN.out _ (HG.out.below blw)).mono ?_;rintro e W2 ⟨A,rfl,hat,hb⟩;have HB2:=bst w hb;have hr2:W2.heap[w.heap.size]?=some (.cells Z42 42 (0,0)):=(hb.block _ (by simp)).trans (aN w _);have HR2:=Hd hr2;have HAT:=Hd hat;clear hr2 hat hb)))
 go_cut [3] (fun ok wx=>ok=.bool true∧Hid (wx.heap[w.heap.size]?=some (.cells #[.int .i64 2,.string aX,.string eP,.int .i64 100,.int .i64 900,.int .i64 0,.int .i64 0,.int .i64 0] 42 (0,0)))∧Hid (Below w.heap.size w wx))
 case first=>
  go_wp2_with (go_at_call 193;go_must (refine rC W2 (HCF.out _ A ((HG.out.below HB2.out).below blw) (HAT.out.below blw)) ?_;intro W3 hb HB3;have hr3:=(HB3.out.block _ (gLt HR2.out)).trans HR2.out;have z0:=aA hr3 0;have z1:=aA hr3 1;have z2:=aA hr3 2;have z3:=aA hr3 3;have z4:=aA hr3 4;have z5:=aA hr3 5;have z6:=aA hr3 6;have z7:=aA hr3 7;have zf:∀o,W3.frozen? ⟨w.heap.size,o,none⟩=false:=fun o=>fH hr3 o;have zl:=(gLt hr3);have HR3:=Hd hr3;clear hb hr3))
  go_meet
  exact⟨rfl,Hd (wF HR3.out (.int .i64 2) (.string aX) (.string eP) (.int .i64 100) (.int .i64 900) (.int .i64 0) (.int .i64 0) (.int .i64 0)),Hd (mA (aD HB2.out HB3.out) nR (.int .i64 2) (.string aX) (.string eP) (.int .i64 100) (.int .i64 900) (.int .i64 0) (.int .i64 0) (.int .i64 0))⟩
 case rest=>
 obtain⟨rfl,HRX,HBX⟩:=hcut
 obtain⟨X,hwc⟩:∃w,w=wc:=⟨_,rfl⟩
 subst hwc
 go_upto_region 10 with(go_at_call 125;go_must (refine(HSP.out _ (HG.out.below (aD (w:=w) HBX.out blw))).mono ?_;rintro e W5 ⟨WA,wc,rfl,hat,hb⟩;have HB5:=bst X hb;have HAT5:=Hd hat.at_;clear hat hb))
 obtain⟨b,off,rfl,hbl,e0⟩:=dD HAT5.out 0 _ rfl
 rw[Nat.add_zero] at e0
 go_wp2_with (go_at_call 194;go_must (refine rB X (aEl _) ?_;intro W6 HB6))
 have HRV:Hid (W6.heap[w.heap.size]?=some (.cells #[.int .i64 2,.string aX,.string eP,.int .i64 100,.int .i64 900,.int .i64 0,.int .i64 0,.int .i64 0] 42 (0,0))):=Hd ((HB6.out.block _ (gLt HRX.out)).trans HRX.out)
 have HBV:Hid (Below w.heap.size w W6):=Hd (aD HBX.out HB6.out)
 clear e0 hbl
 go_loopw [3,43] (fun ok iv wr=>ok=.bool true∧iv=.int .i64 0∧W6=wr) (fun _ _ _=>0)
 case atStart=>exact⟨rfl,rfl,rfl⟩
 case round=>
  obtain⟨rfl,rfl,rfl⟩:=hrel
  have g0:=aA HRV.out 0
  have g1:=aA HRV.out 1
  have g2:=aA HRV.out 2
  have g3:=aA HRV.out 3
  have g4:=aA HRV.out 4
  have g5:=aA HRV.out 5
  have g6:=aA HRV.out 6
  have g7:=aA HRV.out 7
  have gl:=(gLt HRV.out)
  have gf:∀o,W6.frozen? ⟨w.heap.size,o,none⟩=false:=fun o=>fH HRV.out o
  go_wp2_with fail
  obtain⟨Y,hY⟩:∃Y,Y=((((((((W6.setCell ⟨w.heap.size,0,none⟩ (.int .i64 2)).setCell ⟨w.heap.size,1,none⟩ (.string aX)).setCell ⟨w.heap.size,2,none⟩ (.string eP)).setCell ⟨w.heap.size,3,none⟩ (.int .i64 100)).setCell ⟨w.heap.size,4,none⟩ (.int .i64 900)).setCell ⟨w.heap.size,5,none⟩ (.int .i64 0)).setCell ⟨w.heap.size,6,none⟩ (.int .i64 0)).setCell ⟨w.heap.size,7,none⟩ (.int .i64 0)):=⟨_,rfl⟩
  rw[←hY]
  have hrF:Y.heap[w.heap.size]?=some (.cells #[.int .i64 2,.string aX,.string eP,.int .i64 100,.int .i64 900,.int .i64 0,.int .i64 0,.int .i64 0] 42 (0,0)):=by rw[hY];exact wF HRV.out (.int .i64 2) (.string aX) (.string eP) (.int .i64 100) (.int .i64 900) (.int .i64 0) (.int .i64 0) (.int .i64 0)
  have hbF:Below w.heap.size w Y:=by rw[hY];exact mA HBV.out nR (.int .i64 2) (.string aX) (.string eP) (.int .i64 100) (.int .i64 900) (.int .i64 0) (.int .i64 0) (.int .i64 0)
  have c0:Y.cell? ⟨w.heap.size,0,none⟩=some (.int .i64 2):=aA hrF 0
  have c1:Y.cell? ⟨w.heap.size,1,none⟩=some (.string aX):=aA hrF 1
  have c2:Y.cell? ⟨w.heap.size,2,none⟩=some (.string eP):=aA hrF 2
  have c3:Y.cell? ⟨w.heap.size,3,none⟩=some (.int .i64 100):=aA hrF 3
  have c4:Y.cell? ⟨w.heap.size,4,none⟩=some (.int .i64 900):=aA hrF 4
  have c5:Y.cell? ⟨w.heap.size,5,none⟩=some (.int .i64 0):=aA hrF 5
  have c6:Y.cell? ⟨w.heap.size,6,none⟩=some (.int .i64 0):=aA hrF 6
  have c7:Y.cell? ⟨w.heap.size,7,none⟩=some (.int .i64 0):=aA hrF 7
  clear hY hrF g0 g1 g2 g3 g4 g5 g6 g7 gl gf
  exact bodyPost_ret (v:=.tuple #[eZ 2 aX eP 100 900 0 0 0,.bool true]) (by simp[results,results104,go_sem,c0,c1,c2,c3,c4,c5,c6,c7]) rfl ⟨rfl,hbF⟩
end Go.Proofs.YtlibhkkckgkkkaaGreatDoor.Tf
