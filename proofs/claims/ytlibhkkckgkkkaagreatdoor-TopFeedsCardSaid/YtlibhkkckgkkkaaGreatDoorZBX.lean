/- Part of the proof of TopFeeds: AxC AxD AxE AxF AxG. -/
import Derived.Test.YtlibhkkckgkkkaaGreatDoorZAV
import Derived.Test.YtlibhkkckgkkkaaGreatDoorZAW
import Derived.Test.YtlibhkkckgkkkaaGreatDoorZAX
import Derived.Test.YtlibhkkckgkkkaaGreatDoorZBB
import Derived.Test.YtlibhkkckgkkkaaGreatDoorZBO
import Derived.Test.YtlibhkkckgkkkaaGreatDoorZBT
import Derived.Test.YtlibhkkckgkkkaaGreatDoorZBW
set_option maxHeartbeats 8000000
set_option maxRecDepth 100000
namespace Go.Proofs.YtlibhkkckgkkkaaGreatDoor.Tf
open Go.RowKit Go.Proofs.YtlibhkkckgkkkaaGreatDoor.Mem Go.Proofs.YtlibhkkckgkkkaaGreatDoor.Boo
abbrev bobB:ByteArray:=⟨#[98,111,98]⟩
abbrev aCj:ByteArray:=⟨#[97,99,109,101]⟩
def xA:Ex:=.node 6 1000 ⟨#[]⟩ [.node 1 0 ⟨#[]⟩ []]
theorem uH:Gen 5 false xA:=Gen.cut 4 1000 (by decide) _ (Gen.low 3)
theorem aBe:bl (aM xA)=eP:=by decide +kernel
theorem yI:(aM xA).length≤2000:=by decide +kernel
def CA0:Cf:=⟨100,900,0,0,0,xA⟩
theorem aKv:mB CA0:=⟨by decide,by decide,by decide,by decide,by decide,by decide,by decide,by decide,by decide,uH,yI⟩
def LA:List aW:=[⟨bobB,500⟩]
theorem aOu:iY LA:=⟨by decide,(fun o ho=>by obtain rfl:=List.mem_singleton.1 ho;decide +kernel),(fun o ho=>by obtain rfl:=List.mem_singleton.1 ho;decide),by simp[LA]⟩
theorem cgA:cgX xA 0=[⟨2,0,⟨#[]⟩⟩,⟨6,1000,⟨#[]⟩⟩]:=by rfl
def aOh (k n:Int) (s:ByteArray):Int×Bool:=if k=1 then gK [500] 0 else if k=2 then gK [500] 1 else if k=3 then jL LA s else(n,true)
theorem aRf:(fun k n s=>cC k n s LA)=aOh:=by
 funext k n s
 unfold cC aOh
 rw[show eJ (bJ LA)=[500] from by simp[LA,bJ,eJ]]
theorem runA:uN (fun k n s=>cC k n s LA) 1 (cgX xA 0)=(450,true,0):=by
 rw[cgA,aRf]
 decide +kernel
theorem aQ7:eO CA0 LA=(450,true):=by
 unfold eO
 have h:uN (fun k n s=>cC k n s LA) LA.length (cgX CA0.x 0)=(450,true,0):=runA
 rw[h]
 rfl
def MS1:Mst:={sV with C:=some CA0,wt:=true}
def MS2:Mst:={MS1 with bk:=[⟨bobB,500,0⟩],se:=[⟨aCj,1⟩],wt:=true}
def MS3:Mst:={MS2 with ou:=[⟨1,450,0,0,1⟩],fr:=false,wt:=false}
def MS4:Mst:={MS3 with ou:=[⟨1,450,1,2,1⟩],ml:=[⟨0,1,450⟩]}
def MS5:Mst:={MS4 with ou:=[⟨1,450,1,2,2⟩],sh:=[(1,450)],ml:=[]}
def SPm:Nat→Mp→World→Prop
 |0,P,W=>W.heap[P.mb]?=some (.cells (qF P.qb (.slice none 0 0) (.slice none 0 0) (.slice none 0 0)) 73 (0,0))∧fB P.qb P.hb P.pb P.db P.B [] W∧P.B≤P.mb
 |1,P,W=>Md P sV W
 |2,P,W=>Md P MS1 W
 |3,P,W=>Md P MS2 W
 |4,P,W=>Md P MS3 W
 |5,P,W=>Md P MS4 W
 |_,P,W=>Md P MS5 W
theorem fC (i:Nat) (P:Mp) (W W':World) (h:SPm i P W) (k:Ker akL W W'):SPm i P W':=by
 match i,h with
 |0,h=>exact⟨k.cells h.1 (by decide),h.2.1.ker k (by decide) (by decide) (by decide),h.2.2⟩
 |1,h=>exact Md.ker (M:=sV) h k (by decide)
 |2,h=>exact Md.ker (M:=MS1) h k (by decide)
 |3,h=>exact Md.ker (M:=MS2) h k (by decide)
 |4,h=>exact Md.ker (M:=MS3) h k (by decide)
 |5,h=>exact Md.ker (M:=MS4) h k (by decide)
 |i+6,h=>exact Md.ker (M:=MS5) h k (by decide)
def NS:Nat→Int
 |3=>450
 |4=>1
 |5=>1
 |_=>0
theorem aRl (W:World) (G:Gl W):Calls Tryz.prog 64 #[.string jM] W (Ret (.tuple #[.agg #[.string aCj,.int .i64 1,.string aX,.string bobB,.int .i64 500],.int .i64 0,.int .i64 0]) W):=
 tV jM aCj ⟨#[49]⟩ aX bobB ⟨#[53,46,48,48]⟩ (by decide) (by decide +kernel) (by decide +kernel) (by decide) (by decide) (by decide) (by decide) (by decide) (by decide +kernel) (by decide +kernel) (by decide +kernel) 1 (by decide +kernel) (by decide) (by decide) 500 (by decide +kernel) (by decide) (by decide) (by decide) W G
theorem aQd:Ent 29:=enters_of Tryz.func29 (by kernel_rfl) rfl
theorem aQa:Ent 30:=enters_of Tryz.func30 (by kernel_rfl) rfl
theorem stp (i:Nat) (c:Cmd) (hc:CL[i]?=some c) (P:Mp) (W:World) (h6:6≤P.B) (G:Gl W) (h:SPm i P W):
 Calls Tryz.prog 9 #[.pointer (some ⟨P.mb,0,none⟩),c.val] W fun e w'=>e=.returned (.agg #[.int .i64 0,.int .i64 (NS i)])∧SPm (i+1) P w'∧aT P.B W w':=by
 match i,hc,h with
 |0,hc,h=>
  cases hc
  exact aJa P W h.1 h.2.1 h.2.2
 |1,hc,h=>
  cases hc
  have:=aJc P sV CA0 aKv W G h
  rw[show aAt CA0=cmC from congrArg (fun t=>(⟨2,aX,t,100,900,0,0,0⟩:Cmd)) aBe] at this
  exact this
 |2,hc,h=>
  cases hc
  exact aB9 P MS1 jM aCj bobB 1 500 aRl (by decide) (by decide) (by decide) (by decide) (by decide +kernel) (.inl (by decide +kernel)) (by decide +kernel) (by decide +kernel) (by decide) (by decide +kernel) W G h
 |3,hc,h=>
  cases hc
  exact aB8 P h6 MS2 CA0 rfl aKv rfl rfl ⟨0,0,0,0,0⟩ rfl (by decide) (by decide) 450 aQ7 aOu W G h
 |4,hc,h=>
  cases hc
  exact sJ P MS4 1 29 18 cmN rfl rfl (by decide) aQd W (by obtain⟨S,hS⟩:Md P MS3 W:=h;exact hS.lt.2.2) (fun W' hW=>aLa P MS3 450 rfl rfl ⟨#[]⟩ ⟨#[]⟩ W' (Md.below h hW))
 |5,hc,h=>
  cases hc
  exact sJ P MS5 1 30 21 cmD rfl rfl (by decide) aQa W (by obtain⟨S,hS⟩:Md P MS4 W:=h;exact hS.lt.2.2) (fun W' hW=>aQo P MS4 450 rfl rfl rfl ⟨#[]⟩ ⟨#[]⟩ W' (Md.below h hW))
 |i+6,hc,h=>simp at hc
theorem kU:aCk CL SPm:=⟨fun i P W W' h hb=>fC i P W W' h ((Ker.of (ts:=[]) hb).mono (by simp)),fun P W h1 h2 h3=>⟨h1,h2,h3⟩,fun i c hc P W h6 _ G h=>(stp i c hc P W h6 G h).mono (fun e w' ⟨h1,h2,h3⟩=>⟨⟨_,_,h1⟩,h2,h3⟩)⟩
theorem vS:aCk [] SPm:=⟨kU.bel,kU.begin,fun i c hc=>by cases hc⟩
end Go.Proofs.YtlibhkkckgkkkaaGreatDoor.Tf
namespace Go.Proofs.YtlibhkkckgkkkaaGreatDoor.Tf
open Go.RowKit Go.Proofs.YtlibhkkckgkkkaaGreatDoor.Mem Go.Proofs.YtlibhkkckgkkkaaGreatDoor.Boo Go.Proofs.Tryz
theorem aMa (db:Nat) (PP:ByteArray→World→Prop) (w:World) (G:Gl w) (hD:∀W,Below w.heap.size w W→Calls prog 105 #[.pointer (some ⟨db,0,none⟩),eZ 1 aX ⟨#[]⟩ 500 0 0 0 0] W fun e w'=>∃r:ByteArray,e=.returned (.string r)∧PP r w'):
 Calls prog 51 #[.pointer (some ⟨db,0,none⟩),.string sL1] w fun e w'=>∃r:ByteArray,e=.returned (.string r)∧PP r w':=by
 have HP:Hid (∀W,Gl W→Calls prog 104 #[.string sL1] W (Ret (.tuple #[eZ 1 aX ⟨#[]⟩ 500 0 0 0 0,.bool true]) W)):=Hd (fun W G=>aPd _ G)
 have HD:=Hd hD
 have HG:=Hd G
 clear G hD
 go_enter func51,ntmps51
 go_wp2_with (first
  |(go_at_call 104;go_must (refine rB w (HP.out _ (HG.out.below blw)) ?_;intro W1 HB1))
  |(go_at_call 105;go_must (refine(HD.out _ blw).mono ?_;rintro e W2 ⟨r,rfl,hp⟩;have HPP:=Hd hp;clear hp)))
 go_ret
 exact⟨r,rfl,HPP.out⟩
theorem aL9 (db:Nat) (PP:ByteArray→World→Prop) (w:World) (G:Gl w) (hD:∀W,Below w.heap.size w W→Calls prog 105 #[.pointer (some ⟨db,0,none⟩),eZ 2 aX eP 100 900 0 0 0] W fun e w'=>∃r:ByteArray,e=.returned (.string r)∧PP r w'):
 Calls prog 51 #[.pointer (some ⟨db,0,none⟩),.string sL2] w fun e w'=>∃r:ByteArray,e=.returned (.string r)∧PP r w':=by
 have HP:Hid (∀W,Gl W→Calls prog 104 #[.string sL2] W (Ret (.tuple #[eZ 2 aX eP 100 900 0 0 0,.bool true]) W)):=Hd (fun W G=>aPg _ G)
 have HD:=Hd hD
 have HG:=Hd G
 clear G hD
 go_enter func51,ntmps51
 go_wp2_with (first
  |(go_at_call 104;go_must (refine rB w (HP.out _ (HG.out.below blw)) ?_;intro W1 HB1))
  |(go_at_call 105;go_must (refine(HD.out _ blw).mono ?_;rintro e W2 ⟨r,rfl,hp⟩;have HPP:=Hd hp;clear hp)))
 go_ret
 exact⟨r,rfl,HPP.out⟩
theorem aL8 (db:Nat) (PP:ByteArray→World→Prop) (w:World) (G:Gl w) (hD:∀W,Below w.heap.size w W→Calls prog 105 #[.pointer (some ⟨db,0,none⟩),eZ 3 ⟨#[]⟩ jM 0 0 0 0 0] W fun e w'=>∃r:ByteArray,e=.returned (.string r)∧PP r w'):
 Calls prog 51 #[.pointer (some ⟨db,0,none⟩),.string sL3] w fun e w'=>∃r:ByteArray,e=.returned (.string r)∧PP r w':=by
 have HP:Hid (∀W,Gl W→Calls prog 104 #[.string sL3] W (Ret (.tuple #[eZ 3 ⟨#[]⟩ jM 0 0 0 0 0,.bool true]) W)):=Hd (fun W G=>aL1 _)
 have HD:=Hd hD
 have HG:=Hd G
 clear G hD
 go_enter func51,ntmps51
 go_wp2_with (first
  |(go_at_call 104;go_must (refine rB w (HP.out _ (HG.out.below blw)) ?_;intro W1 HB1))
  |(go_at_call 105;go_must (refine(HD.out _ blw).mono ?_;rintro e W2 ⟨r,rfl,hp⟩;have HPP:=Hd hp;clear hp)))
 go_ret
 exact⟨r,rfl,HPP.out⟩
theorem aL7 (db:Nat) (PP:ByteArray→World→Prop) (w:World) (G:Gl w) (hD:∀W,Below w.heap.size w W→Calls prog 105 #[.pointer (some ⟨db,0,none⟩),eZ 5 ⟨#[]⟩ ⟨#[]⟩ 0 0 0 0 0] W fun e w'=>∃r:ByteArray,e=.returned (.string r)∧PP r w'):
 Calls prog 51 #[.pointer (some ⟨db,0,none⟩),.string sL4] w fun e w'=>∃r:ByteArray,e=.returned (.string r)∧PP r w':=by
 have HP:Hid (∀W,Gl W→Calls prog 104 #[.string sL4] W (Ret (.tuple #[eZ 5 ⟨#[]⟩ ⟨#[]⟩ 0 0 0 0 0,.bool true]) W)):=Hd (fun W G=>aPe _ G)
 have HD:=Hd hD
 have HG:=Hd G
 clear G hD
 go_enter func51,ntmps51
 go_wp2_with (first
  |(go_at_call 104;go_must (refine rB w (HP.out _ (HG.out.below blw)) ?_;intro W1 HB1))
  |(go_at_call 105;go_must (refine(HD.out _ blw).mono ?_;rintro e W2 ⟨r,rfl,hp⟩;have HPP:=Hd hp;clear hp)))
 go_ret
 exact⟨r,rfl,HPP.out⟩
theorem aL6 (db:Nat) (PP:ByteArray→World→Prop) (w:World) (G:Gl w) (hD:∀W,Below w.heap.size w W→Calls prog 105 #[.pointer (some ⟨db,0,none⟩),eZ 6 ⟨#[]⟩ ⟨#[]⟩ 0 0 0 0 0] W fun e w'=>∃r:ByteArray,e=.returned (.string r)∧PP r w'):
 Calls prog 51 #[.pointer (some ⟨db,0,none⟩),.string sL5] w fun e w'=>∃r:ByteArray,e=.returned (.string r)∧PP r w':=by
 have HP:Hid (∀W,Gl W→Calls prog 104 #[.string sL5] W (Ret (.tuple #[eZ 6 ⟨#[]⟩ ⟨#[]⟩ 0 0 0 0 0,.bool true]) W)):=Hd (fun W G=>aL0 _ G)
 have HD:=Hd hD
 have HG:=Hd G
 clear G hD
 go_enter func51,ntmps51
 go_wp2_with (first
  |(go_at_call 104;go_must (refine rB w (HP.out _ (HG.out.below blw)) ?_;intro W1 HB1))
  |(go_at_call 105;go_must (refine(HD.out _ blw).mono ?_;rintro e W2 ⟨r,rfl,hp⟩;have HPP:=Hd hp;clear hp)))
 go_ret
 exact⟨r,rfl,HPP.out⟩
theorem aL5 (db:Nat) (PP:ByteArray→World→Prop) (w:World) (G:Gl w) (hD:∀W,Below w.heap.size w W→Calls prog 105 #[.pointer (some ⟨db,0,none⟩),eZ 7 ⟨#[]⟩ ⟨#[]⟩ 0 0 0 0 0] W fun e w'=>∃r:ByteArray,e=.returned (.string r)∧PP r w'):
 Calls prog 51 #[.pointer (some ⟨db,0,none⟩),.string sL6] w fun e w'=>∃r:ByteArray,e=.returned (.string r)∧PP r w':=by
 have HP:Hid (∀W,Gl W→Calls prog 104 #[.string sL6] W (Ret (.tuple #[eZ 7 ⟨#[]⟩ ⟨#[]⟩ 0 0 0 0 0,.bool true]) W)):=Hd (fun W G=>aPf _ G)
 have HD:=Hd hD
 have HG:=Hd G
 clear G hD
 go_enter func51,ntmps51
 go_wp2_with (first
  |(go_at_call 104;go_must (refine rB w (HP.out _ (HG.out.below blw)) ?_;intro W1 HB1))
  |(go_at_call 105;go_must (refine(HD.out _ blw).mono ?_;rintro e W2 ⟨r,rfl,hp⟩;have HPP:=Hd hp;clear hp)))
 go_ret
 exact⟨r,rfl,HPP.out⟩
theorem aL4 (db:Nat) (PP:ByteArray→World→Prop) (w:World) (G:Gl w) (hD:∀W,Below w.heap.size w W→Calls prog 110 #[.pointer (some ⟨db,0,none⟩)] W fun e w'=>∃r:ByteArray,e=.returned (.string r)∧PP r w'):
 Calls prog 51 #[.pointer (some ⟨db,0,none⟩),.string sL7] w fun e w'=>∃r:ByteArray,e=.returned (.string r)∧PP r w':=by
 have HP:Hid (∀W,Gl W→Calls prog 104 #[.string sL7] W (Ret (.tuple #[eZ 0 ⟨#[]⟩ ⟨#[]⟩ 0 0 0 0 0,.bool false]) W)):=Hd (fun W G=>aBx sL7 sL7 [sL7] 1 (by decide) (by decide +kernel) (by decide +kernel) (by decide +kernel) (by decide +kernel) rfl rfl (by decide) aAd W G)
 have HC:Hid (∀W,Gl W→Calls prog 106 #[.string sL7,.string ⟨#[32]⟩] W (Ret (.tuple #[.string sL7,.string ⟨#[]⟩,.bool false]) W)):=Hd (fun W G=>by
  obtain⟨m0,hm0⟩:=G.ml
  refine(Tryz.strings_Cut sL7 ⟨#[32]⟩ m0 W (by decide) hm0).mono ?_
  rintro e w' ⟨rfl,n,rfl⟩
  exact⟨by rw[show Lib.cut sL7.data.toList (ByteArray.mk #[32]).data.toList=(sL7.data.toList,[],false) from by decide +kernel],aL bR n⟩)
 have HD:=Hd hD
 have HG:=Hd G
 clear G hD
 go_enter func51,ntmps51
 go_wp2_with (first
  |(go_at_call 104;go_must (refine rB w (HP.out _ (HG.out.below blw)) ?_;intro W1 HB1))
  |(go_at_call 106;go_must (refine rB w (HC.out _ (HG.out.below blw)) ?_;intro W3 HB3))
  |(go_at_call 110;go_must (refine(HD.out _ blw).mono ?_;rintro e W2 ⟨r,rfl,hp⟩;have HPP:=Hd hp;clear hp)))
 go_ret
 exact⟨r,rfl,HPP.out⟩
theorem aL3 (db:Nat) (PP:ByteArray→World→Prop) (w:World) (G:Gl w) (hD:∀W,Below w.heap.size w W→Calls prog 109 #[.pointer (some ⟨db,0,none⟩),.string aX] W fun e w'=>∃r:ByteArray,e=.returned (.string r)∧PP r w'):
 Calls prog 51 #[.pointer (some ⟨db,0,none⟩),.string sL8] w fun e w'=>∃r:ByteArray,e=.returned (.string r)∧PP r w':=by
 have HP:Hid (∀W,Gl W→Calls prog 104 #[.string sL8] W (Ret (.tuple #[eZ 0 ⟨#[]⟩ ⟨#[]⟩ 0 0 0 0 0,.bool false]) W)):=Hd (fun W G=>aBx sL8 ⟨#[115,104,111,119]⟩ [⟨#[115,104,111,119]⟩,aX] 2 (by decide) (by decide +kernel) (by decide +kernel) (by decide +kernel) (by decide +kernel) rfl rfl (by decide) aAb W G)
 have HC:Hid (∀W,Gl W→Calls prog 106 #[.string sL8,.string ⟨#[32]⟩] W (Ret (.tuple #[.string ⟨#[115,104,111,119]⟩,.string aX,.bool true]) W)):=Hd (fun W G=>by
  obtain⟨m0,hm0⟩:=G.ml
  refine(Tryz.strings_Cut sL8 ⟨#[32]⟩ m0 W (by decide) hm0).mono ?_
  rintro e w' ⟨rfl,n,rfl⟩
  exact⟨by rw[show Lib.cut sL8.data.toList (ByteArray.mk #[32]).data.toList=([115,104,111,119],aX.data.toList,true) from by decide +kernel],aL bR n⟩)
 have HN:Hid (∀W,Calls prog 108 #[.string aX,.string ⟨#[32]⟩] W (Ret (.bool false) W)):=Hd (fun W=>(Tryz.strings_Contains_one aX 32 W).mono (fun e w' ⟨h1,h2⟩=>⟨by rw[h1,show decide (0≤Lib.indexByte aX.data.toList 32)=false from by decide +kernel],by rw[h2];exact bR⟩))
 have HD:=Hd hD
 have HG:=Hd G
 clear G hD
 go_enter func51,ntmps51
 go_wp2_with (first
  |(go_at_call 104;go_must (refine rB w (HP.out _ (HG.out.below blw)) ?_;intro W1 HB1))
  |(go_at_call 106;go_must (refine rB w (HC.out _ (HG.out.below blw)) ?_;intro W3 HB3))
  |(go_at_call 108;go_must (refine rB w (HN.out _) ?_;intro W4 HB4))
  |(go_at_call 109;go_must (refine(HD.out _ blw).mono ?_;rintro e W2 ⟨r,rfl,hp⟩;have HPP:=Hd hp;clear hp)))
 go_ret
 exact⟨r,rfl,HPP.out⟩
structure St (B0 db j:Nat) (P:Mp) (cb:Nat) (W:World):Prop where
 desk:qK db cb W
 ctl:Ctl cb (DD j) ⟨#[]⟩ (.pointer (some ⟨P.mb,0,none⟩)) W
 sp:SPm j P W
 lo:B0≤P.B
 hi:P.B≤cb
 six:6≤B0
 siz:P.B≤W.heap.size
 ne:db≠cb
 dlo:B0≤db
structure RK (B0:Nat) (w w':World):Prop where
 below:Below B0 w w'
 other:∀(i:Nat) (cs:Array Value) (t:TypeId) (fz:Nat×Nat),(t=119∨t=5)→w.heap[i]?=some (.cells cs t fz)→w'.heap[i]?=some (.cells cs t fz)
 size:w.heap.size≤w'.heap.size
theorem RK.ofB {B0:Nat} {w w':World} (hB:B0≤w.heap.size) (h:Below w.heap.size w w'):RK B0 w w':=⟨aP h hB,fun i _ _ _ _ hi=>(h.block i (gLt hi)).trans hi,h.size⟩
theorem RK.trans {B0:Nat} {w1 w2 w3:World} (h:RK B0 w1 w2) (k:RK B0 w2 w3):RK B0 w1 w3:=⟨h.below.trans k.below,fun i cs t fz ht hi=>k.other i cs t fz ht (h.other i cs t fz ht hi),Nat.le_trans h.size k.size⟩
theorem RK.ofL {B B0 cb:Nat} {K p:ByteArray} {mv:Value} {w w':World} (hB:B0≤B) (hc:Ctl cb K p mv w) (h:dJ B cb w w'):RK B0 w w':=⟨aP h.below hB,fun i cs t fz ht hi=>h.other i cs t fz (fun e=>by
 rw[e,hc] at hi
 injection hi with hi
 injection hi with _ e2 _
 rcases ht with r|r <;> exact absurd (e2.trans r) (by decide)) (by rcases ht with rfl|rfl <;> decide) hi,h.size⟩
theorem RK.ofF {B0 db cb:Nat} {w w':World} (hB:B0≤w.heap.size) (hd:qK db cb w) (hdb:B0≤db) (h:Fr [db] w w'):RK B0 w w':=⟨h.below hB (by simpa using hdb),fun i cs t fz ht hi=>(h.block i (gLt hi) (fun hm=>by
 obtain rfl:=List.mem_singleton.1 hm
 rw[hd] at hi
 injection hi with hi
 injection hi with _ e2 _
 rcases ht with r|r <;> exact absurd (e2.trans r) (by decide))).trans hi,h.size⟩
theorem St.below {B0 db j cb:Nat} {P:Mp} {W W':World} (h:St B0 db j P cb W) (k:Below W.heap.size W W'):St B0 db j P cb W':=
 ⟨(k.block _ (gLt h.desk)).trans h.desk,(k.block _ (gLt h.ctl)).trans h.ctl,fC j P W W' h.sp ((Ker.of (ts:=[]) k).mono (by simp)),h.lo,h.hi,h.six,Nat.le_trans h.siz k.size,h.ne,h.dlo⟩
theorem St.others {B0 db j cb b:Nat} {P:Mp} {W W':World} {cs:Array Value} (h:St B0 db j P cb W) (hb:W.heap[b]?=some (.cells cs 119 (0,0))) (k:Lib.OthersKept 5 (some b) W W') (hs:W.heap.size≤W'.heap.size):St B0 db j P cb W':=by
 have kk:Ker [119,5] W W':=fun i o hi ho=>k i o hi (fun e=>by
  injection e with e
  subst e
  rw[hb] at hi
  injection hi with hi
  exact ho _ _ _ hi.symm (by simp)) (fun c f e=>ho _ _ _ e (by simp))
 exact⟨kk.cells h.desk (by decide),kk.cells h.ctl (by decide),fC j P W W' h.sp (kk.mono (by decide)),h.lo,h.hi,h.six,Nat.le_trans h.siz hs,h.ne,h.dlo⟩
def LR (B0 db j:Nat) (w:World) (r:ByteArray) (w':World):Prop:=(2≤r.size∧r.size≤100)∧(∃P cb,St B0 db j P cb w')∧RK B0 w w'
theorem aPo (B0 db:Nat) (w:World) (G:Gl w) (h:∃P cb,St B0 db 0 P cb w):Calls prog 51 #[.pointer (some ⟨db,0,none⟩),.string sL1] w fun e w'=>∃r:ByteArray,e=.returned (.string r)∧LR B0 db 1 w r w':=by
 obtain⟨P,cb,h⟩:=h
 refine aMa db (fun r w'=>LR B0 db 1 w r w') w G (fun W hW=>?_)
 have hS:=h.below hW
 refine(mL P.B P.mb (SPm 0 P) (SPm 1 P) (fC 0 P) (fC 1 P) cb db h.hi h.ne (Nat.le_trans h.six h.lo) (DD 0) 1 aX ⟨#[]⟩ 500 0 0 0 0 (NS 0) (by decide) (frB 0) (by decide) (mM 0 (by decide)) aRw (fun W G hs=>stp 0 cmS rfl P W (Nat.le_trans h.six h.lo) G hs) W (G.below hW) hS.siz hS.sp hS.ctl hS.desk).mono ?_
 rintro e w' ⟨r,rfl,hr,hd,hc,hs,hk⟩
 exact⟨r,rfl,hr,⟨P,cb,hd,hc,hs,h.lo,h.hi,h.six,Nat.le_trans hS.siz hk.size,h.ne,h.dlo⟩,(RK.ofB (Nat.le_trans h.lo h.siz) hW).trans (RK.ofL h.lo hS.ctl hk)⟩
theorem aPn (B0 db:Nat) (w:World) (G:Gl w) (h:∃P cb,St B0 db 1 P cb w):Calls prog 51 #[.pointer (some ⟨db,0,none⟩),.string sL2] w fun e w'=>∃r:ByteArray,e=.returned (.string r)∧LR B0 db 2 w r w':=by
 obtain⟨P,cb,h⟩:=h
 refine aL9 db (fun r w'=>LR B0 db 2 w r w') w G (fun W hW=>?_)
 have hS:=h.below hW
 refine(mL P.B P.mb (SPm 1 P) (SPm 2 P) (fC 1 P) (fC 2 P) cb db h.hi h.ne (Nat.le_trans h.six h.lo) (DD 1) 2 aX eP 100 900 0 0 0 (NS 1) (by decide) (frB 1) (by decide) (mM 1 (by decide)) aR6 (fun W G hs=>stp 1 cmC rfl P W (Nat.le_trans h.six h.lo) G hs) W (G.below hW) hS.siz hS.sp hS.ctl hS.desk).mono ?_
 rintro e w' ⟨r,rfl,hr,hd,hc,hs,hk⟩
 exact⟨r,rfl,hr,⟨P,cb,hd,hc,hs,h.lo,h.hi,h.six,Nat.le_trans hS.siz hk.size,h.ne,h.dlo⟩,(RK.ofB (Nat.le_trans h.lo h.siz) hW).trans (RK.ofL h.lo hS.ctl hk)⟩
theorem aPm (B0 db:Nat) (w:World) (G:Gl w) (h:∃P cb,St B0 db 2 P cb w):Calls prog 51 #[.pointer (some ⟨db,0,none⟩),.string sL3] w fun e w'=>∃r:ByteArray,e=.returned (.string r)∧LR B0 db 3 w r w':=by
 obtain⟨P,cb,h⟩:=h
 refine aL8 db (fun r w'=>LR B0 db 3 w r w') w G (fun W hW=>?_)
 have hS:=h.below hW
 refine(mL P.B P.mb (SPm 2 P) (SPm 3 P) (fC 2 P) (fC 3 P) cb db h.hi h.ne (Nat.le_trans h.six h.lo) (DD 2) 3 ⟨#[]⟩ jM 0 0 0 0 0 (NS 2) (by decide) (frB 2) (by decide) (mM 2 (by decide)) aR2 (fun W G hs=>stp 2 cmF rfl P W (Nat.le_trans h.six h.lo) G hs) W (G.below hW) hS.siz hS.sp hS.ctl hS.desk).mono ?_
 rintro e w' ⟨r,rfl,hr,hd,hc,hs,hk⟩
 exact⟨r,rfl,hr,⟨P,cb,hd,hc,hs,h.lo,h.hi,h.six,Nat.le_trans hS.siz hk.size,h.ne,h.dlo⟩,(RK.ofB (Nat.le_trans h.lo h.siz) hW).trans (RK.ofL h.lo hS.ctl hk)⟩
theorem aPl (B0 db:Nat) (w:World) (G:Gl w) (h:∃P cb,St B0 db 3 P cb w):Calls prog 51 #[.pointer (some ⟨db,0,none⟩),.string sL4] w fun e w'=>∃r:ByteArray,e=.returned (.string r)∧LR B0 db 4 w r w':=by
 obtain⟨P,cb,h⟩:=h
 refine aL7 db (fun r w'=>LR B0 db 4 w r w') w G (fun W hW=>?_)
 have hS:=h.below hW
 refine(mL P.B P.mb (SPm 3 P) (SPm 4 P) (fC 3 P) (fC 4 P) cb db h.hi h.ne (Nat.le_trans h.six h.lo) (DD 3) 5 ⟨#[]⟩ ⟨#[]⟩ 0 0 0 0 0 (NS 3) (by decide) (frB 3) (by decide) (mM 3 (by decide)) aRy (fun W G hs=>stp 3 cmR rfl P W (Nat.le_trans h.six h.lo) G hs) W (G.below hW) hS.siz hS.sp hS.ctl hS.desk).mono ?_
 rintro e w' ⟨r,rfl,hr,hd,hc,hs,hk⟩
 exact⟨r,rfl,hr,⟨P,cb,hd,hc,hs,h.lo,h.hi,h.six,Nat.le_trans hS.siz hk.size,h.ne,h.dlo⟩,(RK.ofB (Nat.le_trans h.lo h.siz) hW).trans (RK.ofL h.lo hS.ctl hk)⟩
theorem aPk (B0 db:Nat) (w:World) (G:Gl w) (h:∃P cb,St B0 db 4 P cb w):Calls prog 51 #[.pointer (some ⟨db,0,none⟩),.string sL5] w fun e w'=>∃r:ByteArray,e=.returned (.string r)∧LR B0 db 5 w r w':=by
 obtain⟨P,cb,h⟩:=h
 refine aL6 db (fun r w'=>LR B0 db 5 w r w') w G (fun W hW=>?_)
 have hS:=h.below hW
 refine(mL P.B P.mb (SPm 4 P) (SPm 5 P) (fC 4 P) (fC 5 P) cb db h.hi h.ne (Nat.le_trans h.six h.lo) (DD 4) 6 ⟨#[]⟩ ⟨#[]⟩ 0 0 0 0 0 (NS 4) (by decide) (frB 4) (by decide) (mM 4 (by decide)) aR0 (fun W G hs=>stp 4 cmN rfl P W (Nat.le_trans h.six h.lo) G hs) W (G.below hW) hS.siz hS.sp hS.ctl hS.desk).mono ?_
 rintro e w' ⟨r,rfl,hr,hd,hc,hs,hk⟩
 exact⟨r,rfl,hr,⟨P,cb,hd,hc,hs,h.lo,h.hi,h.six,Nat.le_trans hS.siz hk.size,h.ne,h.dlo⟩,(RK.ofB (Nat.le_trans h.lo h.siz) hW).trans (RK.ofL h.lo hS.ctl hk)⟩
theorem aPj (B0 db:Nat) (w:World) (G:Gl w) (h:∃P cb,St B0 db 5 P cb w):Calls prog 51 #[.pointer (some ⟨db,0,none⟩),.string sL6] w fun e w'=>∃r:ByteArray,e=.returned (.string r)∧LR B0 db 6 w r w':=by
 obtain⟨P,cb,h⟩:=h
 refine aL5 db (fun r w'=>LR B0 db 6 w r w') w G (fun W hW=>?_)
 have hS:=h.below hW
 refine(mL P.B P.mb (SPm 5 P) (SPm 6 P) (fC 5 P) (fC 6 P) cb db h.hi h.ne (Nat.le_trans h.six h.lo) (DD 5) 7 ⟨#[]⟩ ⟨#[]⟩ 0 0 0 0 0 (NS 5) (by decide) (frB 5) (by decide) (mM 5 (by decide)) aR4 (fun W G hs=>stp 5 cmD rfl P W (Nat.le_trans h.six h.lo) G hs) W (G.below hW) hS.siz hS.sp hS.ctl hS.desk).mono ?_
 rintro e w' ⟨r,rfl,hr,hd,hc,hs,hk⟩
 exact⟨r,rfl,hr,⟨P,cb,hd,hc,hs,h.lo,h.hi,h.six,Nat.le_trans hS.siz hk.size,h.ne,h.dlo⟩,(RK.ofB (Nat.le_trans h.lo h.siz) hW).trans (RK.ofL h.lo hS.ctl hk)⟩
theorem aPi (B0 db:Nat) (w:World) (G:Gl w) (h:∃P cb,St B0 db 6 P cb w):Calls prog 51 #[.pointer (some ⟨db,0,none⟩),.string sL7] w fun e w'=>∃r:ByteArray,e=.returned (.string r)∧LR B0 db 6 w r w':=by
 obtain⟨P,cb,h⟩:=h
 refine aL4 db (fun r w'=>LR B0 db 6 w r w') w G (fun W hW=>?_)
 have hS:=h.below hW
 have hdv:=(gLt hS.desk)
 refine(aE3 CL 6 rfl (DD 6) ssB hdB (by rw[aQp];exact wV) SPm kU fC cb db _ (Nat.le_trans h.six h.dlo) W (G.below hW) hS.ctl hS.desk).mono ?_
 rintro e w' ⟨r,P',cb',rfl,hr,hd,hc,hs,h1,h2,hf⟩
 have hcl:=(gLt hc)
 have hB:B0≤W.heap.size:=Nat.le_trans h.lo hS.siz
 exact⟨r,rfl,hr,⟨P',cb',hd,hc,hs,Nat.le_trans hB h1,h2,h.six,by omega,by omega,h.dlo⟩,(RK.ofB (Nat.le_trans h.lo h.siz) hW).trans (RK.ofF hB hS.desk h.dlo hf)⟩
theorem aPh (B0 db:Nat) (w:World) (G:Gl w) (h:∃P cb,St B0 db 6 P cb w):Calls prog 51 #[.pointer (some ⟨db,0,none⟩),.string sL8] w fun e w'=>∃r:ByteArray,e=.returned (.string r)∧r=gB∧LR B0 db 6 w r w':=by
 obtain⟨P,cb,h⟩:=h
 refine aL3 db (fun r w'=>r=gB∧LR B0 db 6 w r w') w G (fun W hW=>?_)
 have hS:=h.below hW
 refine(aE2 P MS5 ⟨1,450,1,2,2⟩ rfl rfl cb db (DD 6) ⟨#[]⟩ W (G.below hW) hS.sp hS.ctl hS.desk).mono ?_
 rintro e w' ⟨rfl,hb⟩
 exact⟨gB,rfl,rfl,by decide,⟨P,cb,hS.below hb⟩,(RK.ofB (Nat.le_trans h.lo h.siz) hW).trans (RK.ofB (Nat.le_trans h.lo hS.siz) hb)⟩
def sLn:Nat→ByteArray
 |0=>sL1
 |1=>sL2
 |2=>sL3
 |3=>sL4
 |4=>sL5
 |5=>sL6
 |6=>sL7
 |_=>sL8
def jN:Nat→Nat
 |0=>0
 |1=>1
 |2=>2
 |3=>3
 |4=>4
 |5=>5
 |_=>6
def LQ (i B0 db j:Nat) (w:World) (e:Ending) (w':World):Prop:=∃r:ByteArray,e=.returned (.string r)∧(i=7→r=gB)∧LR B0 db j w r w'
theorem rZ {i B0 db j:Nat} {w:World} (hi:i≠7) {e:Ending} {w':World} (h:∃r:ByteArray,e=.returned (.string r)∧LR B0 db j w r w'):LQ i B0 db j w e w':=by
 obtain⟨r,h1,h2⟩:=h
 exact⟨r,h1,fun e=>absurd e hi,h2⟩
theorem aMi (B0 db:Nat) (w:World) (G:Gl w) (h:∃P cb,St B0 db 0 P cb w):Calls prog 51 #[.pointer (some ⟨db,0,none⟩),.string sL1] w (LQ 0 B0 db 1 w):=(aPo B0 db w G h).mono (fun _ _ h=>rZ (by decide) h)
theorem aMh (B0 db:Nat) (w:World) (G:Gl w) (h:∃P cb,St B0 db 1 P cb w):Calls prog 51 #[.pointer (some ⟨db,0,none⟩),.string sL2] w (LQ 1 B0 db 2 w):=(aPn B0 db w G h).mono (fun _ _ h=>rZ (by decide) h)
theorem aMg (B0 db:Nat) (w:World) (G:Gl w) (h:∃P cb,St B0 db 2 P cb w):Calls prog 51 #[.pointer (some ⟨db,0,none⟩),.string sL3] w (LQ 2 B0 db 3 w):=(aPm B0 db w G h).mono (fun _ _ h=>rZ (by decide) h)
theorem aMf (B0 db:Nat) (w:World) (G:Gl w) (h:∃P cb,St B0 db 3 P cb w):Calls prog 51 #[.pointer (some ⟨db,0,none⟩),.string sL4] w (LQ 3 B0 db 4 w):=(aPl B0 db w G h).mono (fun _ _ h=>rZ (by decide) h)
theorem aMe (B0 db:Nat) (w:World) (G:Gl w) (h:∃P cb,St B0 db 4 P cb w):Calls prog 51 #[.pointer (some ⟨db,0,none⟩),.string sL5] w (LQ 4 B0 db 5 w):=(aPk B0 db w G h).mono (fun _ _ h=>rZ (by decide) h)
theorem aMd (B0 db:Nat) (w:World) (G:Gl w) (h:∃P cb,St B0 db 5 P cb w):Calls prog 51 #[.pointer (some ⟨db,0,none⟩),.string sL6] w (LQ 5 B0 db 6 w):=(aPj B0 db w G h).mono (fun _ _ h=>rZ (by decide) h)
theorem aMc (B0 db:Nat) (w:World) (G:Gl w) (h:∃P cb,St B0 db 6 P cb w):Calls prog 51 #[.pointer (some ⟨db,0,none⟩),.string sL7] w (LQ 6 B0 db 6 w):=(aPi B0 db w G h).mono (fun _ _ h=>rZ (by decide) h)
theorem aMb (B0 db:Nat) (w:World) (G:Gl w) (h:∃P cb,St B0 db 6 P cb w):Calls prog 51 #[.pointer (some ⟨db,0,none⟩),.string sL8] w (LQ 7 B0 db 6 w):=(aPh B0 db w G h).mono (fun _ _ ⟨r,h1,h2,h3⟩=>⟨r,h1,fun _=>h2,h3⟩)
theorem aHs (i:Nat) (hi:i<8) (B0 db:Nat) (w:World) (G:Gl w) (h:∃P cb,St B0 db (jN i) P cb w):Calls prog 51 #[.pointer (some ⟨db,0,none⟩),.string (sLn i)] w (LQ i B0 db (jN (i+1)) w):=by
 rcases(show i=0∨i=1∨i=2∨i=3∨i=4∨i=5∨i=6∨i=7 by omega) with rfl|rfl|rfl|rfl|rfl|rfl|rfl|rfl
 ·exact aMi B0 db w G h
 ·exact aMh B0 db w G h
 ·exact aMg B0 db w G h
 ·exact aMf B0 db w G h
 ·exact aMe B0 db w G h
 ·exact aMd B0 db w G h
 ·exact aMc B0 db w G h
 ·exact aMb B0 db w G h
def gW:ByteArray:=⟨#[115,107,117,32,109,117,103,32,53,46,48,48,10,99,111,110,102,105,103,32,109,117,103,32,49,46,48,48,32,57,46,48,48,32,48,46,48,48,32,48,32,48,46,48,48,32,99,117,116,40,108,111,119,101,115,116,44,32,49,48,48,48,41,10,102,101,101,100,32,97,99,109,101,32,49,32,109,117,103,32,98,111,98,32,53,46,48,48,10,114,117,110,10,115,101,110,100,10,100,101,108,105,118,101,114,32,48,10,111,112,101,110,10,115,104,111,119,32,109,117,103]⟩
def pU:List ByteArray:=[⟨#[115,107,117,32,109,117,103,32,53,46,48,48,10]⟩,⟨#[99,111,110,102,105,103,32,109,117,103,32,49,46,48,48,32,57,46,48,48,32,48,46,48,48,32,48,32,48,46,48,48,32,99,117,116,40,108,111,119,101,115,116,44,32,49,48,48,48,41,10]⟩,⟨#[102,101,101,100,32,97,99,109,101,32,49,32,109,117,103,32,98,111,98,32,53,46,48,48,10]⟩,⟨#[114,117,110,10]⟩,⟨#[115,101,110,100,10]⟩,⟨#[100,101,108,105,118,101,114,32,48,10]⟩,⟨#[111,112,101,110,10]⟩,⟨#[115,104,111,119,32,109,117,103]⟩]
theorem aLg (i:Nat) (hi:i<8):∃s,pU[i]?=some s∧(⟨(Lib.trimSuffix s.data.toList [10]).toArray⟩:ByteArray)=sLn i∧s.size≤1000:=by
 rcases(show i=0∨i=1∨i=2∨i=3∨i=4∨i=5∨i=6∨i=7 by omega) with rfl|rfl|rfl|rfl|rfl|rfl|rfl|rfl
 ·exact⟨_,rfl,by decide +kernel,by decide⟩
 ·exact⟨_,rfl,by decide +kernel,by decide⟩
 ·exact⟨_,rfl,by decide +kernel,by decide⟩
 ·exact⟨_,rfl,by decide +kernel,by decide⟩
 ·exact⟨_,rfl,by decide +kernel,by decide⟩
 ·exact⟨_,rfl,by decide +kernel,by decide⟩
 ·exact⟨_,rfl,by decide +kernel,by decide⟩
 ·exact⟨_,rfl,by decide +kernel,by decide⟩
theorem aFg (w:World) (G:Gl w):Calls prog 48 #[.string gW,.string ⟨#[10]⟩] w fun e w'=>∃A,e=.returned (.slice A 8 8)∧dT.At w' A 8 pU∧Below w.heap.size w w':=by
 have HGS:Hid (∀W,Gl W→Calls prog 101 #[.string gW,.string ⟨#[10]⟩,.int .i64 1,.int .i64 (-1)] W fun e w'=>∃A,e=.returned (.slice A 8 8)∧dT.At w' A 8 pU∧Below W.heap.size W w'):=Hd (fun W G=>by
  obtain⟨m0,hm0⟩:=G.ml
  have hcn:Lib.countB gW ⟨#[10]⟩=7:=by decide +kernel
  refine(Tryz.strings_genSplit gW ⟨#[10]⟩ 1 (-1) 8 m0 W (by decide +kernel) hm0 (by decide) (by decide) (by decide) (by decide) (by rw[hcn];decide +kernel)).mono ?_
  rintro e w' ⟨rfl,rfl⟩
  rw[show Lib.splitB ⟨#[10]⟩ 1 (8-1) gW=pU from by decide +kernel,show Lib.cellsOf pU 8=(pU.map Value.string).toArray from by rfl]
  exact⟨_,rfl,(En.Own.lit dT W 0 9 _ pU (Nat.zero_le _) (by decide) (by rw[aJl])).at_,aB bR _⟩)
 have HG:=Hd G
 clear G
 generalize gW=sc at *
 go_enter func48,ntmps48
 go_wp2_with (go_at_call 101;go_must (refine(HGS.out _ (HG.out.below blw)).mono ?_;rintro e W1 ⟨A,rfl,hat,hb⟩;have HB1:=bst w hb;have HAT:=Hd hat;clear hat hb))
 go_ret
 exact⟨A,rfl,HAT.out,HB1.out⟩
theorem aH3 {b:Nat} {l:List UInt8} {w w':World} (h:IsC b l w) (hk:∀(i:Nat) (cs:Array Value) (t:TypeId) (fz:Nat×Nat),(t=119∨t=5)→w.heap[i]?=some (.cells cs t fz)→w'.heap[i]?=some (.cells cs t fz)):IsC b l w':=by
 have key:∀p,Lib.BuilderAt 119 5 b b p (Lib.byteCells l) w→Lib.BuilderAt 119 5 b b p (Lib.byteCells l) w':=fun p h=>by
  obtain⟨hB,v,hb,⟨h1,h2⟩,hne⟩:=h
  refine⟨hB,v,hk _ _ _ _ (.inl rfl) hb,⟨h1,?_⟩,hne⟩
  rcases h2 with h2|⟨g,cap,cur,e1,e2,e3,e4⟩
  ·exact .inl h2
  ·exact .inr ⟨g,cap,cur,e1,e2,hk _ _ _ _ (.inr rfl) e3,e4⟩
 exact h.imp (key _) (key _)
theorem aMq {b:Nat} {l:List UInt8} {w:World} (h:IsC b l w):∃cs,w.heap[b]?=some (.cells cs 119 (0,0)):=by
 rcases h with⟨_,v,hb,_⟩|⟨_,v,hb,_⟩ <;> exact⟨_,hb⟩
structure aCl (i:Nat) (l:List UInt8):Prop where
 hi:l.length≤100 * i
 lo:1≤i→2≤l.length
 fin:i=8→∃p,l=p++gB.data.toList∧2≤p.length
theorem aCl.step {i:Nat} {l:List UInt8} {r:ByteArray} (h:aCl i l) (hr:2≤r.size∧r.size≤100) (h7:i=7→r=gB):aCl (i+1) (l++r.data.toList):=by
 have hl:r.data.toList.length=r.size:=rfl
 refine⟨by rw[lA,hl];have:=h.hi;omega,fun _=>by rw[lA,hl];omega,fun e=>?_⟩
 obtain rfl:i=7:=by omega
 exact⟨l,by rw[h7 rfl],h.lo (by decide)⟩
def BB (bb i:Nat) (W:World):Prop:=∃l,IsC bb l W∧aCl i l
theorem BB.keep {bb i:Nat} {w w':World} (h:BB bb i w) (hk:∀(i:Nat) (cs:Array Value) (t:TypeId) (fz:Nat×Nat),(t=119∨t=5)→w.heap[i]?=some (.cells cs t fz)→w'.heap[i]?=some (.cells cs t fz)):BB bb i w':=by
 obtain⟨l,h1,h2⟩:=h
 exact⟨l,aH3 h1 hk,h2⟩
theorem aKe (B0 db j bb i:Nat) (hi:i<8) (r:ByteArray) (W:World) (h:BB bb i W) (hr:2≤r.size∧r.size≤100) (h7:i=7→r=gB) (hs:∃P cb,St B0 db j P cb W) (hB:B0≤bb):
 Calls prog 50 #[.pointer (some ⟨bb,0,none⟩),.string r] W fun e w'=>(∃n:Int,e=.returned (.tuple #[.int .i64 n,.nilIface]))∧BB bb (i+1) w'∧(∃P cb,St B0 db j P cb w')∧Below B0 W w'∧W.heap.size≤w'.heap.size:=by
 obtain⟨l,h1,h2⟩:=h
 have hl:=h2.hi
 obtain⟨cs,hrow⟩:=aMq h1
 obtain⟨P,cb,hst⟩:=hs
 refine(aJ2 bb l r W h1 (by omega)).mono ?_
 rintro e w' ⟨rfl,k1,k2⟩
 exact⟨⟨_,rfl⟩,⟨l++r.data.toList,k1,h2.step hr h7⟩,⟨P,cb,hst.others hrow k2.other k2.size⟩,aP k2.below hB,k2.size⟩
theorem aFe (B0 bb:Nat) (W:World) (h:BB bb 8 W) (hB:B0≤bb):
 Calls prog 53 #[.pointer (some ⟨bb,0,none⟩)] W fun e w'=>∃p:List UInt8,e=.returned (.string ⟨(p++gB.data.toList).toArray⟩)∧2≤p.length∧p.length≤1000∧Below B0 W w':=by
 obtain⟨l,h1,h2⟩:=h
 obtain⟨p,rfl,hp⟩:=h2.fin rfl
 have hl:=h2.hi
 rw[lA] at hl
 refine(aFc bb _ W h1 (fun e=>by rw[List.append_eq_nil_iff] at e;obtain⟨rfl,_⟩:=e;exact absurd hp (by decide))).mono ?_
 rintro e w' ⟨rfl,k2⟩
 exact⟨p,rfl,hp,by omega,aP k2 hB⟩
theorem aKf (B0 cb:Nat) (P:Mp) (W1 W2:World) (hB:B0=W1.heap.size) (h6:6≤W1.heap.size) (h12:Below W1.heap.size W1 W2) (h1:W1.heap.size≤P.B) (h2:P.B≤cb) (hc:Ctl cb (DD 0) ⟨#[]⟩ (.pointer (some ⟨P.mb,0,none⟩)) W2) (hs:SPm 0 P W2):
 (∃P' cb',St B0 W2.heap.size (jN 0) P' cb' ((W2.alloc (.cells #[.pointer (some ⟨cb,0,none⟩)] 115)).alloc (.cells #[.pointer none,.slice none 0 0] 119)))∧BB (W2.heap.size+1) 0 ((W2.alloc (.cells #[.pointer (some ⟨cb,0,none⟩)] 115)).alloc (.cells #[.pointer none,.slice none 0 0] 119))∧Below B0 W1 ((W2.alloc (.cells #[.pointer (some ⟨cb,0,none⟩)] 115)).alloc (.cells #[.pointer none,.slice none 0 0] 119)):=by
 have k1:Below W2.heap.size W2 (W2.alloc (.cells #[.pointer (some ⟨cb,0,none⟩)] 115)):=aB bR _
 have k2:Below W2.heap.size W2 ((W2.alloc (.cells #[.pointer (some ⟨cb,0,none⟩)] 115)).alloc (.cells #[.pointer none,.slice none 0 0] 119)):=aB k1 _
 have hcl:=(gLt hc)
 refine⟨⟨P,cb,?_,(k2.block _ hcl).trans hc,fC 0 P _ _ hs ((Ker.of (ts:=[]) k2).mono (by simp)),by omega,h2,by omega,by have:=k2.size;omega,by omega,by have:=h12.size;omega⟩,⟨[],?_,by decide,fun h=>absurd h (by decide),fun h=>absurd h (by decide)⟩,?_⟩
 ·have hz:(W2.alloc (.cells #[.pointer (some ⟨cb,0,none⟩)] 115)).heap.size=W2.heap.size+1:=sz1 _ _
  exact((aB bR _:Below (W2.alloc (.cells #[.pointer (some ⟨cb,0,none⟩)] 115)).heap.size _ _).block _ (by omega)).trans (aN W2 _)
 ·have:=Lib.fresh_isBuilder 119 5 (W2.alloc (.cells #[.pointer (some ⟨cb,0,none⟩)] 115))
  rw[sz1] at this
  exact this
 ·rw[hB];exact h12.trans (aP k2 h12.size)
theorem yW (w:World) (G:Gl w):Calls prog 16 #[.string gW] w fun e w'=>∃p:List UInt8,e=.returned (.tuple #[.string ⟨(p++gB.data.toList).toArray⟩,.int .i64 0])∧2≤p.length∧p.length≤1000∧Below w.heap.size w w':=by
 have HAF:Hid (∀W,Gl W→Calls prog 48 #[.string gW,.string ⟨#[10]⟩] W fun e w'=>∃A,e=.returned (.slice A 8 8)∧dT.At w' A 8 pU∧Below W.heap.size W w'):=Hd (fun W G=>aFg W G)
 have HOP:Hid (∀W,Gl W→Calls prog 49 #[.agg #[.string ⟨#[]⟩,.string ⟨#[]⟩]] W fun e w'=>∃(P:Mp) (cb:Nat),e=.returned (.tuple #[.pointer (some ⟨cb,0,none⟩),.int .i64 0])∧W.heap.size≤P.B∧P.B≤cb∧Ctl cb (DD 0) ⟨#[]⟩ (.pointer (some ⟨P.mb,0,none⟩)) w'∧SPm 0 P w'∧Below W.heap.size W w'):=Hd (fun W G=>wN [] 0 rfl ⟨#[]⟩ ⟨#[]⟩ _ _ zS SPm vS W G)
 have HG:=Hd G
 have zs:¬((gW.size:Int)>20000):=by decide +kernel
 generalize gW=sc at *
 clear G
 go_enter func16,ntmps16
 go_upto_region 2 with(go_at_call 48;go_must (refine(HAF.out _ (HG.out.below blw)).mono ?_;rintro e W1 ⟨RA,rfl,hat,hb⟩;have HB1:=bst w hb;have HAT:=Hd hat;clear hat hb))
 obtain⟨b,off,rfl,hbl,e7⟩:=dD HAT.out 7 _ rfl
 go_upto_region 7 with(go_at_call 49;go_must (refine(HOP.out _ (HG.out.below HB1.out)).mono ?_;rintro e W2 ⟨P,cb,rfl,hpb,hpc,hct,hsp,hb⟩;have HB2:Hid (Below W1.heap.size W1 W2):=Hd hb;have HPB:Hid (W1.heap.size≤P.B∧P.B≤cb):=Hd ⟨hpb,hpc⟩;have HCT:=Hd hct;have HSP:=Hd hsp;clear hpb hpc hct hsp hb))
 go_upto_region 9 with fail
 have HF:=Hd (aKf W1.heap.size cb P W1 W2 rfl (Nat.le_trans HG.out.size HB1.out.size) HB2.out HPB.out.1 HPB.out.2 HCT.out HSP.out)
 obtain⟨W3,hW3⟩:∃W3,W3=(W2.alloc (.cells #[.pointer (some ⟨cb,0,none⟩)] 115)).alloc (.cells #[.pointer none,.slice none 0 0] 119):=⟨_,rfl⟩
 rw[←hW3] at HF ⊢
 have HST:=Hd HF.out.1
 have HBU:=Hd HF.out.2.1
 have HB3:=Hd HF.out.2.2
 have HGE:=Hd HB2.out.size
 have HLN:Hid (∀i,i<8→∀W,Gl W→(∃P cb,St W1.heap.size W2.heap.size (jN i) P cb W)→Calls prog 51 #[.pointer (some ⟨W2.heap.size,0,none⟩),.string (sLn i)] W (LQ i W1.heap.size W2.heap.size (jN (i+1)) W)):=Hd (fun i hi W G h=>aHs i hi _ _ W G h)
 clear HF hW3 HCT HSP HPB HOP HAF e7
 go_wp2_with fail
 go_loopw [43] (fun iv wr=>∃i:Nat,i≤8∧iv=.int .i64 i∧Hid (∃P cb,St W1.heap.size W2.heap.size (jN i) P cb wr)∧Hid (BB (W2.heap.size+1) i wr)∧Hid (Below W1.heap.size W1 wr)) (fun iv _=>8-(intOf iv).toNat)
 case atStart=>exact⟨0,Nat.zero_le _,rfl,HST,HBU,HB3⟩
 case round=>
  obtain⟨i,him,rfl,HSI,HBI,HB⟩:=hrel
  obtain⟨V,hv⟩:∃x,x=wr:=⟨_,rfl⟩
  subst hv
  by_cases hlt:i<8
  ·obtain⟨s,hs,htr,hsz⟩:=aLg i hlt
   obtain⟨b',off',hA,hbl',e0⟩:=dD (HAT.out.below HB.out) i _ hs
   obtain⟨rfl,rfl⟩:b'=b∧off'=off:=by
    injection hA with hA
    injection hA with h1 h2 _
    exact⟨h1.symm,h2.symm⟩
   have HZI:=Hd (aBf i (by omega))
   have HLT:=Hd hlt
   have HTR:=Hd htr
   have HSZ:=Hd hsz
   have zlt:(i:Int)<8:=by omega
   clear hs htr hsz hA hlt
   go_wp2_with (first
    |(go_at_call 52;go_must (refine(Tryz.strings_TrimSuffix s ⟨#[10]⟩ _ (by have:=HSZ.out;omega)).mono ?_;rintro e X ⟨rfl,rfl⟩;rw[HTR.out]))
    |(go_at_call 51;go_must (refine(HLN.out i HLT.out _ ((HG.out.below HB1.out).below HB.out) HSI.out).mono ?_;rintro e X ⟨r,rfl,h7,hrs,hst,hrk⟩;have H7:=Hd h7;have HRS:=Hd hrs;have HSX:=Hd hst;have HRK:=Hd hrk;have HBX:=Hd (HBI.out.keep hrk.other);clear h7 hrs hst hrk))
    |(go_at_call 50;go_must (refine(aKe W1.heap.size W2.heap.size (jN (i+1)) (W2.heap.size+1) i HLT.out r _ HBX.out HRS.out H7.out HSX.out (Nat.le_succ_of_le HGE.out)).mono ?_;rintro e Y ⟨⟨n,rfl⟩,hby,hsy,hly,hzy⟩;have HBY:=Hd hby;have HSY:=Hd hsy;have HLY:=Hd hly;clear hby hsy hly hzy)))
   go_roundw
   case rel=>exact⟨i+1,HLT.out,(by first|rw[HZI.out]|rfl|simp),HSY,HBY,Hd ((HB.out.trans HRK.out.below).trans HLY.out)⟩
   case measure=>(try rw[HZI.out]);exact kG HLT.out
  ·obtain rfl:i=8:=by omega
   clear hlt
   go_wp2_with (go_at_call 53;go_must (refine(aFe W1.heap.size (W2.heap.size+1) _ HBI.out (Nat.le_succ_of_le HGE.out)).mono ?_;rintro e X ⟨p,rfl,hp1,hp2,hbx⟩;have HBX:=Hd hbx;clear hbx))
   exact bodyPost_ret (v:=.tuple #[.string ⟨(p++gB.data.toList).toArray⟩,.int .i64 0]) (by simp[results,results16,go_sem]) rfl ⟨p,rfl,hp1,hp2,HB1.out.trans (aP (HB.out.trans HBX.out) HB1.out.size)⟩
theorem vY (p:List UInt8):(⟨(p++gB.data.toList).toArray⟩:ByteArray).extract p.length (p.length+13)=⟨#[115,104,111,119,110,32,52,46,53,48,32,49,10]⟩:=by
 apply ByteArray.ext
 rw[ByteArray.data_extract]
 apply Array.ext'
 rw[Array.toList_extract,List.extract_eq_take_drop]
 simp only[List.drop_left]
 rw[Nat.add_sub_cancel_left]
 decide +kernel
theorem vZ (W:World) (G:Gl W):Calls prog 16 #[.string gW] W fun e w'=>∃(S:ByteArray) (q:Nat),e=.returned (.tuple #[.string S,.int .i64 0])∧(S.size=q+13∧2≤q∧q≤1000)∧S.extract q (q+13)=⟨#[115,104,111,119,110,32,52,46,53,48,32,49,10]⟩∧Below W.heap.size W w':=
 (yW W G).mono (fun e w' ⟨p,h1,h2,h3,h4⟩=>⟨_,p.length,h1,⟨by
   show(p++gB.data.toList).length=_
   rw[lA]
   rfl,h2,h3⟩,vY p,h4⟩)
theorem aFf (w:World) (G:Gl w):Calls prog 4 #[] w (Ret (.bool true) w):=by
 have HPA:Hid (∀W,Gl W→Calls prog 13 #[.string eP] W fun e w'=>(∃v:EV,e=.returned (.tuple #[.agg #[.int .i64 v.k,.int .i64 v.n,.string v.s,.slice v.A v.m v.c],.int .i64 0,.int .i64 0])∧bB (fun b=>W.heap.size≤b) w' xA v)∧Below W.heap.size W w'):=Hd (fun W G=>by
  have:=rN uH (by decide) yI W G
  rw[aBe] at this
  exact this)
 have HCO:Hid (∀(S:Nat→Prop) (v:EV) W,Gl W→bB S W xA v→Calls prog 14 #[v.v] W fun e w'=>∃A c,e=.returned (.tuple #[.slice A 2 c,.int .i64 0])∧dI.At w' A c (cgX xA 0)∧Below W.heap.size W w'):=Hd (fun S v W G h=>(tZ uH yI S v W G h).mono (fun e w' ⟨A,c,h1,h2,h3⟩=>⟨A,c,h1,h2.at_,h3⟩))
 have HRU:Hid (∀(CA:Option Addr) (cc:Nat) (A:Option Addr) (c:Nat) W,Gl W→dI.At W CA cc (cgX xA 0)→dF.At W A c LA→Calls prog 15 #[.slice CA 2 cc,.slice A 1 c] W (Ret (.tuple #[.int .i64 450,.bool true,.int .i64 0]) W)):=Hd (fun CA cc A c W G h1 h2=>mD (cgX xA 0) (by decide) (by have:=aOs 5 false xA uH 0;rwa [Nat.zero_add] at this) CA cc 2 rfl LA aOu A c 1 rfl W G h1 h2 (450,true,0) runA)
 have HSC:=Hd (fun W G=>vZ W G)
 have HG:=Hd G
 clear G
 go_enter func4,ntmps4
 go_upto_region 2 with(go_at_call 13;go_must (refine(HPA.out _ (HG.out.below blw)).mono ?_;rintro e W1 ⟨⟨v,rfl,hat⟩,hb⟩;have HB1:=bst w hb;have HAT:=Hd hat;clear hat hb))
 obtain⟨k,n,s,VA,vm,vc⟩:=v
 dsimp only
 have HAT2:=Hd (HAT.out.onBelow (aB bR (.cells #[.int .i64 k,.int .i64 n,.string s,.slice VA vm vc] 51)))
 have HB2:Hid (Below w.heap.size w (W1.alloc (.cells #[.int .i64 k,.int .i64 n,.string s,.slice VA vm vc] 51))):=Hd (aB HB1.out _)
 clear HAT
 go_upto_region 4 with(first
  |(go_at_call 14;go_must (refine(HCO.out _ ⟨k,n,s,VA,vm,vc⟩ _ (HG.out.below HB2.out) HAT2.out).mono ?_;rintro e W3 ⟨CA,cc,rfl,hat,hb⟩;have HB3:Hid (Below w.heap.size w W3):=Hd (aD (w:=w) HB2.out hb);have HCA:=Hd hat;clear hat hb))
  |(go_at_call 15;go_must (refine(HRU.out CA cc _ 1 _ (HG.out.below blw) (HCA.out.below (by first|exact aB bR _|exact blw)) (eU dF W3 _ _ ⟨bobB,500⟩ rfl)).mono ?_;rintro e W4 ⟨rfl,hb⟩;have HB4:=bst w hb;clear hb)))
 go_wp2_with (go_at_call 16;go_must (refine(HSC.out _ (HG.out.below HB4.out)).mono ?_;rintro e W5 ⟨S,q,rfl,⟨hq0,hq1,hq2⟩,hq3,hb⟩;have HB5:Hid (Below w.heap.size w W5):=Hd (aD (w:=w) HB4.out hb);have hz1:(14:Int)<(S.size:Int):=(by omega);have hz2:wrap64 ((S.size:Int)-13)=(q:Int):=((Mem.w64 (by omega) (by omega)).trans (by omega));have hz3:(q:Int)≤(S.size:Int):=(by omega);rw[←hq0] at hq3;clear hb hq0))
 go_ret
 exact⟨rfl,HB5.out⟩
end Go.Proofs.YtlibhkkckgkkkaaGreatDoor.Tf
