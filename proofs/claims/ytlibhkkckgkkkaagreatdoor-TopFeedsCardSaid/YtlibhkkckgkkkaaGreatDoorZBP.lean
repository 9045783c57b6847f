/- Part of the proof of TopFeeds: AwO AwP. -/
import Derived.Test.YtlibhkkckgkkkaaGreatDoorZAP
import Derived.Test.YtlibhkkckgkkkaaGreatDoorZAS
import Derived.Test.YtlibhkkckgkkkaaGreatDoorZBH
import Derived.Test.YtlibhkkckgkkkaaGreatDoorZBO
set_option maxHeartbeats 4000000
set_option maxRecDepth 100000
namespace Go.Proofs.YtlibhkkckgkkkaaGreatDoor.Tf
open Go.RowKit Go.Sort Go.Proofs.YtlibhkkckgkkkaaGreatDoor.Mem Go.Proofs.YtlibhkkckgkkkaaGreatDoor.Boo Go.Proofs.Tryz
theorem dD {w:World} {A:Option Addr} {c:Nat} {xs:List ByteArray} (h:dT.At w A c xs) (k:Nat) (x:ByteArray) (hx:xs[k]?=some x):
 ∃b off,A=some ⟨b,off,none⟩∧b<w.heap.size∧w.cell? ⟨b,off+k,none⟩=some (.string x):=by
 obtain⟨b,off,hA,hlt,hc⟩:=h.get k x hx
 have h0:=hc 0 (by decide)
 have e:k * dT.sz+0=k:=by show k * 1+0=k;omega
 rw[e] at h0
 exact⟨b,off,hA,hlt,h0⟩
theorem yV (s:ByteArray) (hs:s.size≤1000000) (w:World):Calls prog 294 #[.string s] w (Ret (.string s) w):=by
 have HC:Hid (∀W,Calls prog 321 #[.string s] W (Ret (.string s) W)):=Hd (fun W=>Tryz.stringslite_Clone s W (by omega))
 clear hs
 go_enter func294,ntmps294
 go_wp2_with (go_at_call 321;go_must (refine rB w (HC.out _) ?_;intro wq1 Bq1))
 go_ret
 exact⟨rfl,blw⟩
theorem aJl (ws:List ByteArray):dT.cs ws=ws.map Value.string:=by
 induction ws with
 |nil=>rfl
 |cons a r ih=>rw[En.cs_cons,ih];rfl
theorem mC (J:ByteArray) (ws:List ByteArray) (m:Nat) (hJ:J.size≤100000) (hsp:Lib.splitB gG 0 (Lib.countB J gG) J=ws) (hcn:Lib.countB J gG+1=m) (hm:ws.length=m) (hm2:m≤1000) (W:World) (G:Gl W):
 Calls prog 125 #[.string J,.string gG] W fun e w'=>∃A c,e=.returned (.slice A m c)∧dT.Own 9 w' W.heap.size A c ws∧Below W.heap.size W w':=by
 obtain⟨m0,hm0⟩:=G.ml
 refine(Tryz.strings_Split J gG m0 W (by omega) hm0 (by decide)).mono ?_
 rintro e w' ⟨rfl,rfl⟩
 rw[hsp,hcn]
 refine⟨_,_,rfl,?_,aB bR _⟩
 have:=(En.Own.lit dT W W.heap.size 9 (ws.map Value.string).toArray ws nR (by omega) (by rw[aJl]))
 rw[hm] at this
 exact this
theorem aNv (b J t:ByteArray) (hb:b.size≤100000) (hc:Lib.cut b.data.toList [58]=(J.data.toList,t.data.toList,true)) (W:World) (G:Gl W):
 Calls prog 106 #[.string b,.string ⟨#[58]⟩] W (Ret (.tuple #[.string J,.string t,.bool true]) W):=by
 obtain⟨m0,hm0⟩:=G.ml
 refine(Tryz.strings_Cut b ⟨#[58]⟩ m0 W (by omega) hm0).mono ?_
 rintro e w' ⟨rfl,n,rfl⟩
 refine⟨?_,aL bR n⟩
 rw[show(ByteArray.mk #[58]).data.toList=[58] from rfl,hc]
theorem tM {α β:Type} {d:En α} {d':En β} {e e':TypeId} {w w2:World} {base base' c c':Nat} {A A':Option Addr} {xs:List α} {xs':List β} (h:d.Own e w base A c xs) (h':d'.Own e' w base' A' c' xs') (ne:e≠e') (hg:w.grownBy w2 (Value.slice A' xs'.length c').ownBlock):d.Own e w2 base A c xs:=h.kept hg (by
 cases ho:(Value.slice A xs.length c).ownBlock with
 |none=>exact .inl rfl
 |some b=>
  right
  intro he
  obtain⟨c1,f1,g1⟩:=Lib.ownsRow_kind h b ho
  obtain⟨c2,f2,g2⟩:=Lib.ownsRow_kind h' b he.symm
  rw[g1] at g2
  injection g2 with g2
  injection g2 with _ g3 _
  exact ne g3)
structure RecB (k:Int) (xs:List Int) (t b J:ByteArray) (ws:List ByteArray) (m:Nat):Prop where
 ok:lM k xs t
 len:(Lib.join ((eL k xs).map (·.data.toList)) [32]).length≤1000
 body:xZ k xs t=b
 size:b.size≤60000
 cut:Lib.cut b.data.toList [58]=(J.data.toList,t.data.toList,true)
 jsize:J.size≤1000
 split:Lib.splitB gG 0 (Lib.countB J gG) J=ws
 count:Lib.countB J gG+1=m+1
 wlen:ws.length=m+1
 xlen:xs.length=m
 atoi:∀(i:Nat) (s:ByteArray),ws[i]?=some s→∃x,(k::xs)[i]?=some x∧lL s=some x∧s.size≤100
theorem mE (k:Int) (xs:List Int) (t b J:ByteArray) (ws:List ByteArray) (m:Nat) (h:RecB k xs t b J ws m) (w:World) (G:Gl w):
 Calls prog 248 #[.string b] w fun e w'=>∃A c,e=.returned (.tuple #[.agg #[.int .i64 k,.slice A m c,.string t],.bool true])∧dZ.Own 3 w' w.heap.size A c xs∧Below w.heap.size w w':=by
 obtain⟨h1,h2,h3,h4,h5,h6,h7,h8,h9,h10,h11⟩:=h
 have hts:=h1.text
 have hm20:m≤20:=by have:=h1.len;omega
 obtain⟨i0,hi,iz,isz,iby⟩:=info_parts wX
 have HG:=Hd G
 have HCU:Hid (∀W,Gl W→Calls prog 106 #[.string b,.string ⟨#[58]⟩] W (Ret (.tuple #[.string J,.string t,.bool true]) W)):=Hd (fun W G=>aNv b J t (by omega) h5 W G)
 have HSP:Hid (∀W,Gl W→Calls prog 125 #[.string J,.string gG] W fun e w'=>∃A c,e=.returned (.slice A (m+1) c)∧dT.Own 9 w' W.heap.size A c ws∧Below W.heap.size W w'):=Hd (fun W G=>mC J ws (m+1) (by omega) h7 h8 h9 (by omega) W G)
 have HAI:Hid (∀(i:Nat) s,ws[i]?=some s→∃x,(k::xs)[i]?=some x∧∀W,Calls prog 213 #[.string s] W (Ret (.tuple #[.int .i64 x,.nilIface]) W)):=Hd (fun i s hs=>by
  obtain⟨x,e1,e2,e3⟩:=h11 i s hs
  exact⟨x,e1,fun W=>aCg s (by omega) x e2 W⟩)
 have HCL:Hid (∀W,Calls prog 294 #[.string t] W (Ret (.string t) W)):=Hd (fun W=>yV t (by omega) W)
 have HRI:Hid (∀W A c,dZ.At W A c xs→Calls prog 250 #[.agg #[.int .i64 k,.slice A m c,.string t]] W (Ret (.bool true) W)):=Hd (fun W A c ha=>nG k A c m xs t h10 h1 W ha)
 have HBO:Hid (∀W A c,Gl W→dZ.At W A c xs→Calls prog 295 #[.agg #[.int .i64 k,.slice A m c,.string t]] W (Ret (.string b) W)):=Hd (fun W A c G ha=>by
  have:=xY k A c m xs t h10 h1 h2 W G ha
  rwa [h3] at this)
 have HWL:=Hd h9
 have HXL:=Hd h10
 have HM20:=Hd hm20
 clear h1 h2 h3 h4 h5 h6 h7 h8 h9 h10 h11 hts hm20 G
 go_enter func248,ntmps248
 go_wp2_with (first
  |(go_at_call 106;go_must (refine rC w (HCU.out _ (HG.out.below blw)) ?_;intro W1 hb HB1;have HR1:Hid (W1.heap[w.heap.size]?=some (.cells #[.int .i64 0,.slice none 0 0,.string ⟨#[]⟩] 288 (0,0))):=Hd ((hb.block _ (by simp)).trans (aN w _));clear hb))
  |(go_at_call 125;go_must (refine(HSP.out _ (HG.out.below blw)).mono ?_;rintro e W2 ⟨WA,wc,rfl,hat,hb⟩;have HB2:=bst w hb;have HR2:Hid (W2.heap[w.heap.size]?=some (.cells #[.int .i64 0,.slice none 0 0,.string ⟨#[]⟩] 288 (0,0))):=Hd ((hb.block _ (gLt HR1.out)).trans HR1.out);have HAT:Hid (dT.Own 9 W2 (w.heap.size+1) WA wc ws):=Hd (hat.lower (Nat.le_trans (gLt HR1.out) (show Below W1.heap.size W1 _ from blw).size));clear hb hat)))
 go_loopw [20] (fun iv wr=>∃(i:Nat) (A:Option Addr) (c:Nat) (v:Int),i≤m+1∧iv=.int .i64 i∧Hid (0<i→v=k)∧Hid (wr.heap[w.heap.size]?=some (.cells #[.int .i64 v,.slice A (i-1) c,.string ⟨#[]⟩] 288 (0,0)))∧Hid (dZ.Own 3 wr (w.heap.size+1) A c (xs.take (i-1)))∧Hid (Below w.heap.size w wr)∧Hid (dT.Own 9 wr (w.heap.size+1) WA wc ws)) (fun iv _=>m+1-(intOf iv).toNat)
 case atStart=>exact⟨0,none,0,0,Nat.zero_le _,rfl,Hd (fun h=>absurd h (Nat.lt_irrefl 0)),HR2,Hd (En.Own.none_ _ _ _),HB2,HAT⟩
 case round=>
  obtain⟨i,A,c,v,him,rfl,HV,HR,HOW,HB,HT⟩:=hrel
  obtain⟨V,hv⟩:∃x,x=wr:=⟨_,rfl⟩
  subst hv
  by_cases hlt:i<m+1
  ·have hxi:ws[i]?=some (ws[i]'(by have:=HWL.out;omega)):=gE _
   obtain⟨bb,off,rfl,hbl,e0⟩:=dD HT.out.at_ i _ hxi
   obtain⟨x,hx,HX0⟩:=HAI.out i _ hxi
   generalize ws[i]'(by have:=HWL.out;omega)=s at e0 HX0 hxi
   have HX:=Hd HX0
   have HLT:=Hd hlt
   have HZI:Hid (wrap64 ((i:Int)+1)=((i+1:Nat):Int)):=Hd (by rw[Mem.w64 (by omega) (by have:=HM20.out;omega)];omega)
   have zlt:(i:Int)<((m:Int)+1):=by omega
   clear hxi HX0 hlt
   cases i with
   |zero=>
    obtain rfl:k=x:=by simpa using hx
    rw[Nat.add_zero] at e0
    clear hx
    go_wp2_with (go_at_call 213;go_must (refine rC V (HX.out _) ?_;intro W3 hb HB3;have hr3:=(HB3.out.block _ (gLt HR.out)).trans HR.out;have d0:=aA hr3 0;have d1:=aA hr3 1;have df:∀o,W3.frozen? ⟨w.heap.size,o,none⟩=false:=fun o=>fH hr3 o;have dl:=(gLt hr3);have HR3:=Hd hr3;clear hb hr3))
    go_roundw
    case rel=>exact⟨1,A,c,k,by omega,(by first|rfl|simp),Hd (fun _=>rfl),Hd (aE W3 _ 0 _ 288 _ HR3.out),Hd ((HOW.out.below HB3.out).far (p:=⟨w.heap.size,0,none⟩) (Nat.lt_succ_self _) _),Hd (aF (p:=⟨w.heap.size,0,none⟩) (aD HB.out HB3.out) nR _),Hd ((HT.out.below HB3.out).far (p:=⟨w.heap.size,0,none⟩) (Nat.lt_succ_self _) _)⟩
    case measure=>simp[intOf]
   |succ j=>
    have hxj:xs[j]?=some x:=by simpa using hx
    obtain rfl:v=k:=HV.out (Nat.succ_pos _)
    rw[Nat.add_sub_cancel] at HR HOW
    have hj0:(((j+1:Nat):Int)==0)=false:=by rw[beq_eq_false_iff_ne];omega
    have hj1:decide (((j+1:Nat):Int)=0)=false:=decide_eq_false (by omega)
    have HTL:Hid ((xs.take j).length=j):=Hd (by rw[List.length_take,HXL.out];have:=HLT.out;omega)
    have HST:Hid (xs.take (j+1)=xs.take j++[x]):=Hd (by
     obtain⟨hh,rfl⟩:=List.getElem?_eq_some_iff.1 hxj
     exact List.take_succ_eq_append_getElem hh)
    have HJM:Hid (j<m):=Hd (by have:=HLT.out;omega)
    have HZJ:Hid (wrap64 ((j:Int)+1+1)=((j+1+1:Nat):Int)):=Hd (by have:=HZI.out;push_cast at this ⊢;exact this)
    clear hx hxj
    go_wp2_with (first
     |(go_at_call 213;go_must (refine rC V (HX.out _) ?_;intro W3 hb HB3;have hr3:=(HB3.out.block _ (gLt HR.out)).trans HR.out;have d0:=aA hr3 0;have d1:=aA hr3 1;have df:∀o,W3.frozen? ⟨w.heap.size,o,none⟩=false:=fun o=>fH hr3 o;have dl:=(gLt hr3);have HR3:=Hd hr3;have HO3:=Hd (HOW.out.below HB3.out);have HT3:=Hd (HT.out.below HB3.out);clear hb hr3))
     |(at_builtin;refine aV dZ _ rfl _ _ 23 rfl (w.heap.size+1) 3 i0 _ 8 underlying23 hi iz isz iby rfl A c _ (xs.take j) rfl HTL.out.symm ?_ _ 1 1 [x] rfl rfl ?_ ?_ ?_ ?_ ?_;(exact HO3.out.below (aB bR _));(exact eU dZ W3 3 _ x rfl);(rw[HTL.out];have:=HM20.out;have:=HJM.out;simp;omega);(rw[HTL.out];have:=HM20.out;have:=HJM.out;simp;omega);(exact Nat.le_trans (gLt HR3.out) (by simp));(intro A5 c5 w5 hown hg hat;have HO5:Hid (dZ.Own 3 w5 (w.heap.size+1) A5 c5 (xs.take (j+1))):=Hd (by rw[HST.out];exact hown);have HT5:Hid (dT.Own 9 w5 (w.heap.size+1) _ wc ws):=Hd (tM (HT3.out.below (aB bR _)) (HO3.out.below (aB bR _)) (by decide) hg);have hbx:Below (w.heap.size+1) (W3.alloc (.cells #[.int .i64 x] 3)) w5:=bR.grown hg (Nat.le_trans (gLt HR3.out) (by simp)) (fun r hr=>(HO3.out.row r hr).1);have hr5:=(hbx.block _ (Nat.lt_succ_self _)).trans ((Below.heap_alloc W3 (.cells #[.int .i64 x] 3) _ (gLt HR3.out)).trans HR3.out);have HB5:Hid (Below w.heap.size w w5):=Hd ((aB (aD HB.out HB3.out) _).trans (aP hbx (Nat.le_succ _)));have m1:=aA hr5 1;have mf:∀o,w5.frozen? ⟨w.heap.size,o,none⟩=false:=fun o=>fH hr5 o;have mlt:=(gLt hr5);have HR5:=Hd hr5;have HLN:Hid ((xs.take j++[x]).length=j+1):=Hd (by rw[lA,HTL.out];rfl);rw[HLN.out];clear hown hg hat hbx hr5)))
    go_roundw
    case rel=>exact⟨j+1+1,A5,c5,v,HLT.out,(by first|rw[HZI.out]|rw[HZJ.out]|rfl|simp),Hd (fun _=>rfl),Hd (by rw[Nat.add_sub_cancel];exact aE w5 _ 1 _ 288 _ HR5.out),Hd (by rw[Nat.add_sub_cancel];exact HO5.out.far (p:=⟨w.heap.size,1,none⟩) (Nat.lt_succ_self _) _),Hd (aF (p:=⟨w.heap.size,1,none⟩) HB5.out nR _),Hd (HT5.out.far (p:=⟨w.heap.size,1,none⟩) (Nat.lt_succ_self _) _)⟩
    case measure=>(first|rw[HZI.out]|rw[HZJ.out]|skip);exact kG HLT.out
  ·obtain rfl:i=m+1:=by omega
   obtain rfl:v=k:=HV.out (Nat.succ_pos _)
   rw[Nat.add_sub_cancel] at HR HOW
   have HOX:Hid (dZ.Own 3 V (w.heap.size+1) A c xs):=Hd (by have:=HOW.out;rwa [←HXL.out,List.take_length] at this)
   clear hlt
   go_upto_region 13 with(go_at_call 294;go_must (refine rC V (HCL.out _) ?_;intro W3 hb HB3;have hr3:=(HB3.out.block _ (gLt HR.out)).trans HR.out;have d2:=aA hr3 2;have df:∀o,W3.frozen? ⟨w.heap.size,o,none⟩=false:=fun o=>fH hr3 o;have dl:=(gLt hr3);have HR3:=Hd hr3;clear hb hr3))
   obtain⟨X,hX⟩:∃X,X=W3.setCell ⟨w.heap.size,2,none⟩ (.string t):=⟨_,rfl⟩
   have HRX:Hid (X.heap[w.heap.size]?=some (.cells #[.int .i64 v,.slice A m c,.string t] 288 (0,0))):=Hd (by rw[hX];exact aE W3 _ 2 _ 288 _ HR3.out)
   have HO4:Hid (dZ.Own 3 X (w.heap.size+1) A c xs):=Hd (by rw[hX];exact(HOX.out.below HB3.out).far (p:=⟨w.heap.size,2,none⟩) (Nat.lt_succ_self _) _)
   have HBX:Hid (Below w.heap.size w X):=Hd (by rw[hX];exact aF (p:=⟨w.heap.size,2,none⟩) (aD HB.out HB3.out) nR _)
   rw[←hX]
   clear hX d2 df dl
   have q0:=aA HRX.out 0
   have q1:=aA HRX.out 1
   have q2:=aA HRX.out 2
   have heq:∀W,(Op.equalIn 10000 9 (.string b) (.string b)).run prog W=.ok true W:=fun W=>by go_simp
   go_region_held3 (fun W'=>W'.cell? ⟨w.heap.size,0,none⟩=some (.int .i64 v)∧W'.cell? ⟨w.heap.size,1,none⟩=some (.slice A m c)∧W'.cell? ⟨w.heap.size,2,none⟩=some (.string t)) (first|go_keep|(have hz:=box3 HRY2.out (.int .i64 v) (.slice A m c) (.string t);exact⟨aA hz 0,aA hz 1,aA hz 2⟩)) (first
    |(go_at_call 250;go_must (refine rC X (HRI.out _ A c (HO4.out.at_.below blw)) ?_;intro Y1 hb HY1;have hr:=(HY1.out.block _ (gLt HRX.out)).trans HRX.out;have y10:=aA hr 0;have y11:=aA hr 1;have y12:=aA hr 2;have y1f:∀o,Y1.frozen? ⟨w.heap.size,o,none⟩=false:=fun o=>fH hr o;have y1l:=(gLt hr);have HRY1:=Hd hr;clear hb hr))
    |(go_at_call 295;go_must (refine rC X (HBO.out _ A c ((HG.out.below HBX.out).below blw) (HO4.out.at_.below blw)) ?_;intro Y2 hb HY2;have hr:=(HY2.out.block _ (gLt HRX.out)).trans HRX.out;have y20:=aA hr 0;have y21:=aA hr 1;have y22:=aA hr 2;have y2f:∀o,Y2.frozen? ⟨w.heap.size,o,none⟩=false:=fun o=>fH hr o;have y2l:=(gLt hr);have HRY2:=Hd hr;clear hb hr)))
   all_goals have HO1:=Hd (HO4.out.below HY2.out)
   all_goals have HB1':=Hd (aD HBX.out HY2.out)
   all_goals clear heq
   all_goals go_wp2_with fail
   all_goals exact bodyPost_ret (v:=.tuple #[.agg #[.int .i64 v,.slice A m c,.string t],.bool true]) (by simp[results,results248,go_sem, *]) rfl ⟨A,c,rfl,(((HO1.out.far (p:=⟨w.heap.size,0,none⟩) (Nat.lt_succ_self _) _).far (p:=⟨w.heap.size,1,none⟩) (Nat.lt_succ_self _) _).far (p:=⟨w.heap.size,2,none⟩) (Nat.lt_succ_self _) _).lower (Nat.le_succ _),aF (p:=⟨w.heap.size,2,none⟩) (aF (p:=⟨w.heap.size,1,none⟩) (aF (p:=⟨w.heap.size,0,none⟩) HB1'.out nR _) nR _) nR _⟩
structure Rec where
 k:Int
 xs:List Int
 t:ByteArray
structure Rk where
 k:Int
 A:Option Addr
 n:Nat
 c:Nat
 t:ByteArray
def dRk:En Rk:=⟨fun r=>[.int .i64 r.k,.slice r.A r.n r.c,.string r.t],3,by omega,fun _=>rfl,fun x u hu=>by simp at hu;rcases hu with rfl|rfl|rfl <;> rfl⟩
theorem aPw:(prog.info? 288).map (fun i=>(i.zero,i.size,i.bytes))=some (some (.agg #[.int .i64 0,.slice none 0 0,.string ⟨#[]⟩]),3,48):=by kernel_rfl
def iB (w:World) (base:Nat) (rs:Nat→Rec) (vs:List Rk):Prop:=∀(i:Nat) (v:Rk),vs[i]?=some v→v.k=(rs i).k∧v.n=(rs i).xs.length∧v.t=(rs i).t∧dZ.Own 3 w base v.A v.c (rs i).xs
theorem iB.below {w w':World} {base:Nat} {rs:Nat→Rec} {vs:List Rk} (h:iB w base rs vs) (hb:Below w.heap.size w w'):iB w' base rs vs:=fun i v hv=>by
 obtain⟨h1,h2,h3,h4⟩:=h i v hv
 exact⟨h1,h2,h3,h4.below hb⟩
theorem iB.far {w:World} {base:Nat} {rs:Nat→Rec} {vs:List Rk} (h:iB w base rs vs) {p:Addr} (hp:p.block<base) (u:Value):iB (w.setCell p u) base rs vs:=fun i v hv=>by
 obtain⟨h1,h2,h3,h4⟩:=h i v hv
 exact⟨h1,h2,h3,h4.far hp u⟩
theorem iB.grown {w w':World} {base base' c:Nat} {A:Option Addr} {rs:Nat→Rec} {vs ws:List Rk} (h:iB w base rs vs) (ho:dRk.Own 288 w base' A c ws) (hg:w.grownBy w' (Value.slice A ws.length c).ownBlock):iB w' base rs vs:=fun i v hv=>by
 obtain⟨h1,h2,h3,h4⟩:=h i v hv
 exact⟨h1,h2,h3,tM h4 ho (by decide) hg⟩
theorem iB.snoc {w:World} {base:Nat} {rs:Nat→Rec} {vs:List Rk} {i:Nat} (h:iB w base rs vs) (hi:vs.length=i) {k:Int} {xs:List Int} {t:ByteArray} (hr:rs i=⟨k,xs,t⟩) (A:Option Addr) (c:Nat) (hat:dZ.Own 3 w base A c xs):iB w base rs (vs++[⟨k,A,xs.length,c,t⟩]):=fun j v hv=>by
 by_cases hj:j<vs.length
 ·rw[List.getElem?_append_left hj] at hv
  exact h j v hv
 ·rw[List.getElem?_append_right (by omega)] at hv
  have h0:j-vs.length=0:=by
   have:=(List.getElem?_eq_some_iff.1 hv).1
   simp at this
   omega
  rw[h0] at hv
  obtain rfl:j=i:=by omega
  injection hv with hv
  subst hv
  rw[hr]
  exact⟨rfl,rfl,rfl,hat⟩
theorem aGh {w W3 Y w5:World} {A A2:Option Addr} {c c2 i:Nat} {vs:List Rk} {rs:Nat→Rec} {rk:Int} {rxs:List Int} {rt:ByteArray} {o:Obj} (hg:Y.grownBy w5 (Value.slice A vs.length c).ownBlock) (hpre:Below W3.heap.size W3 Y) (ho:dRk.Own 288 W3 (w.heap.size+1) A c vs) (hro:iB W3 (w.heap.size+1) rs vs) (hv:vs.length=i) (hr:rs i=⟨rk,rxs,rt⟩) (hat:dZ.Own 3 W3 (w.heap.size+1) A2 c2 rxs) (hb:W3.heap[w.heap.size]?=some o) (hw:Below w.heap.size w W3):
 iB w5 (w.heap.size+1) rs (vs++[⟨rk,A2,rxs.length,c2,rt⟩])∧w5.heap[w.heap.size]?=some o∧Below w.heap.size w w5:=by
 have hlt:=(gLt hb)
 have hbx:Below (w.heap.size+1) W3 w5:=(aP hpre hlt).grown hg (Nat.le_trans hlt hpre.size) (fun r hr=>(ho.row r hr).1)
 exact⟨((hro.below hpre).snoc hv hr A2 c2 (hat.below hpre)).grown (ho.below hpre) hg,(hbx.block _ (Nat.lt_succ_self _)).trans hb,hw.trans (aP hbx (Nat.le_succ _))⟩
structure nN (N:Nat) (ss hd:Nat→ByteArray) (rs:Nat→Rec):Prop where
 last:ss N=⟨#[]⟩
 rd:∀i,i<N→∀(rb:Nat) (v0 v1:Value) (W:World),W.heap[rb]?=some (.cells #[v0,v1,.string (ss i)] 342 (0,0))→Calls prog 247 #[.pointer (some ⟨rb,0,none⟩)] W (Ret (.tuple #[.string (hd i),.bool true,.bool true]) W)
 rc:∀i,i<N→∀W,Gl W→Calls prog 248 #[.string ((hd i).extract 2 (hd i).size)] W fun e w'=>∃A c,e=.returned (.tuple #[.agg #[.int .i64 (rs i).k,.slice A (rs i).xs.length c,.string (rs i).t],.bool true])∧dZ.Own 3 w' W.heap.size A c (rs i).xs∧Below W.heap.size W w'
 cut:∀i,i<N→(ss i).extract ((hd i).size+2) (ss i).size=ss (i+1)
 size:∀i,i<N→2≤(hd i).size∧(hd i).size+2≤(ss i).size
 top:(ss 0).size≤100000
 num:N≤100
theorem nN.le {N:Nat} {ss hd:Nat→ByteArray} {rs:Nat→Rec} (h:nN N ss hd rs):∀i,i≤N→(ss i).size≤(ss 0).size
 |0,_=>nR
 |i+1,hi=>by
  have:=h.le i (by omega)
  have h2:=h.cut i (by omega)
  have:(ss (i+1)).size=(ss i).size-((hd i).size+2):=by
   rw[←h2,ByteArray.size_extract]
   omega
  omega
theorem nN.next {N:Nat} {ss hd:Nat→ByteArray} {rs:Nat→Rec} (h:nN N ss hd rs) (i:Nat) (hi:i<N):(ss (i+1)).size+((hd i).size+2)=(ss i).size:=by
 have h2:=h.cut i hi
 have h3:=h.size i hi
 have:(ss (i+1)).size=(ss i).size-((hd i).size+2):=by
  rw[←h2,ByteArray.size_extract]
  omega
 omega
def aHy (rb:Nat) (w:World):Nat:=match w.cell? ⟨rb,2,none⟩ with
 |some (.string s)=>s.size
 |_=>0
theorem aGi (N:Nat) (ss hd:Nat→ByteArray) (rs:Nat→Rec) (h:nN N ss hd rs) (w:World) (G:Gl w):
 Calls prog 186 #[.string (ss 0)] w fun e w'=>∃A c vs,e=.returned (.tuple #[.slice A N c,.int .i64 ((ss 0).size:Int),.int .i64 0])∧vs.length=N∧dRk.At w' A c vs∧iB w' w.heap.size rs vs∧Below w.heap.size w w':=by
 obtain⟨i0,hi,iz,isz,iby⟩:=info_parts aPw
 have HG:=Hd G
 have HF:=Hd h
 have HTOP:=Hd h.top
 have HN100:=Hd h.num
 clear G h
 go_enter func186,ntmps186
 have hz:∀W,(zeroValue 340).run prog W=.ok (.agg #[.slice none 0 0,.int .i64 0]) W:=fun W=>by kernel_rfl
 go_wp2_with fail
 go_step3
 go_wp2_with fail
 apply wp_label
 go_wp2_with fail
 go_loopw [6] (fun ev wr=>∃(i:Nat) (A:Option Addr) (c:Nat) (vs:List Rk),i≤N∧ev=.int .i64 0∧Hid (vs.length=i)∧Hid (wr.heap[w.heap.size]?=some (.cells #[.slice A i c,.int .i64 (((ss 0).size:Int)-((ss i).size:Int)),.string (ss i)] 342 (0,0)))∧Hid (dRk.Own 288 wr (w.heap.size+1) A c vs)∧Hid (iB wr (w.heap.size+1) rs vs)∧Hid (Below w.heap.size w wr)) (fun _ wr=>aHy w.heap.size wr)
 case atStart=>exact⟨0,none,0,[],Nat.zero_le _,rfl,Hd rfl,Hd (by rw[Int.sub_self];exact aN w _),Hd (En.Own.none_ _ _ _),Hd (fun i v hv=>by cases hv),Hd (aB bR _)⟩
 case round=>
  obtain⟨i,A,c,vs,him,rfl,HVL,HR,HOW,HRO,HB⟩:=hrel
  obtain⟨V,hv⟩:∃x,x=wr:=⟨_,rfl⟩
  subst hv
  by_cases hlt:i<N
  ·have HRD:Hid (∀W,W.heap[w.heap.size]?=some (.cells #[.slice A i c,.int .i64 (((ss 0).size:Int)-((ss i).size:Int)),.string (ss i)] 342 (0,0))→Calls prog 247 #[.pointer (some ⟨w.heap.size,0,none⟩)] W (Ret (.tuple #[.string (hd i),.bool true,.bool true]) W)):=Hd (fun W hW=>HF.out.rd i hlt _ _ _ W hW)
   have HRC:=Hd (HF.out.rc i hlt)
   have HNX:=Hd (HF.out.next i hlt)
   have HSZ:=Hd (HF.out.size i hlt)
   have HLE:=Hd (HF.out.le i (by omega))
   have HLT:=Hd hlt
   have hs2:∀W,(Instr.slice 9 (.string (hd i)) (some (.int .i64 2)) none none).run prog W=.ok (.string ((hd i).extract 2 (hd i).size)) W:=fun W=>by
    rw[run_slice_string_l (P:=prog) W 9 (hd i) (by kernel_rfl) .i64 2 (by omega) (by have:=HSZ.out.1;omega)]
    rfl
   have z2:(2:Int)≤((hd i).size:Int):=by have:=HSZ.out.1;omega
   generalize (hd i).extract 2 (hd i).size=bd at HRC hs2
   generalize hRi:rs i=ri at HRC
   obtain⟨rk,rxs,rt⟩:=ri
   dsimp only at HRC
   have HRI:=Hd hRi
   clear hRi hlt
   go_upto_region 8 with(first
    |(go_at_call 247;go_must (refine rB V (HRD.out _ HR.out) ?_;intro W1 HB1))
    |(go_at_call 248;go_must (refine(HRC.out _ ((HG.out.below HB.out).below blw)).mono ?_;rintro e W2 ⟨A2,c2,rfl,hat,hb⟩;have HB2:=bst V hb;have HAT:=Hd hat;clear hat hb)))
   obtain⟨W3,hW3⟩:∃W3,W3=W2.alloc (.cells #[.int .i64 rk,.slice A2 rxs.length c2,.string rt] 288):=⟨_,rfl⟩
   have HB3:Hid (Below V.heap.size V W3):=Hd (by rw[hW3];exact aB HB2.out _)
   have hr3:W3.heap[W2.heap.size]?=some (.cells #[.int .i64 rk,.slice A2 rxs.length c2,.string rt] 288 (0,0)):=by rw[hW3];exact aN W2 _
   have hrb:=(HB3.out.block _ (gLt HR.out)).trans HR.out
   have HRB:=Hd hrb
   have HO3:=Hd (HOW.out.below HB3.out)
   have HRO3:=Hd (HRO.out.below HB3.out)
   have HAT3:Hid (dZ.Own 3 W3 (w.heap.size+1) A2 c2 rxs):=Hd (by rw[hW3];exact(HAT.out.lower (Nat.le_trans (gLt HR.out) HB1.out.size)).below (aB bR _))
   have HB4:Hid (Below w.heap.size w W3):=Hd (aD HB.out HB3.out)
   have HI100:Hid (i<100):=Hd (by have:=HLT.out;have:=HN100.out;omega)
   rw[←hW3]
   have y0:=aA hr3 0
   have y1:=aA hr3 1
   have y2:=aA hr3 2
   have yl:=(gLt hr3)
   have x0:=aA hrb 0
   have xl:=(gLt hrb)
   clear hW3 hr3 hrb hs2 z2
   go_cut [] (fun wx=>∃A5 c5 vs5,Hid (vs5.length=i+1)∧Hid (wx.heap[w.heap.size]?=some (.cells #[.slice A5 (i+1) c5,.int .i64 (((ss 0).size:Int)-((ss i).size:Int)),.string (ss i)] 342 (0,0)))∧Hid (dRk.Own 288 wx (w.heap.size+1) A5 c5 vs5)∧Hid (iB wx (w.heap.size+1) rs vs5)∧Hid (Below w.heap.size w wx))
   case first=>
    go_region_law (first
     |(refine cO dRk _ (by rfl) _ _ _ (by rfl) (w.heap.size+1) 288 i0 _ 48 underlying283 hi iz isz iby rfl A c _ vs (by rfl) HVL.out.symm ?_ _ _ _ [⟨rk,A2,rxs.length,c2,rt⟩] (by rfl) rfl ?_ ?_ ?_ ?_ ?_;(exact HO3.out.below blw);(first|exact eU dRk _ 288 _ _ rfl|exact(eU dRk W3 288 #[.int .i64 rk,.slice A2 rxs.length c2,.string rt] _ rfl).below blw|exact(eU dRk W3.drew 288 #[.int .i64 rk,.slice A2 rxs.length c2,.string rt] _ rfl).below blw);(rw[HVL.out];have:=HI100.out;simp;omega);(rw[HVL.out];have:=HI100.out;simp;omega);(exact Nat.le_trans (gLt HRB.out) (show Below W3.heap.size W3 _ from blw).size);(intro A5 c5 w5 hown hg hat;have HO5:=Hd hown;obtain⟨hro5,hr5,hb5⟩:=aGh hg blw HO3.out HRO3.out HVL.out HRI.out HAT3.out HRB.out HB4.out;have HRO5:=Hd hro5;have HB5:=Hd hb5;have m0:=aA hr5 0;have mf:∀o,w5.frozen? ⟨w.heap.size,o,none⟩=false:=fun o=>fH hr5 o;have mlt:=(gLt hr5);have HR5:=Hd hr5;have HLN:Hid ((vs++[(⟨rk,A2,rxs.length,c2,rt⟩:Rk)]).length=i+1):=Hd (by rw[lA,HVL.out];rfl);rw[HLN.out];clear hown hg hat hr5 hro5 hb5)))
    all_goals go_wp2_with fail
    all_goals go_meet
    all_goals exact⟨A5,c5,_,HLN,Hd (aE w5 _ 0 _ 342 _ HR5.out),Hd (HO5.out.far (p:=⟨w.heap.size,0,none⟩) (Nat.lt_succ_self _) _),Hd (HRO5.out.far (p:=⟨w.heap.size,0,none⟩) (Nat.lt_succ_self _) _),Hd (aF (p:=⟨w.heap.size,0,none⟩) HB5.out nR _)⟩
   case rest=>
   obtain⟨A5,c5,vs5,HV5,HR5,HO5,HRO5,HB5⟩:=hcut
   obtain⟨X,hwc⟩:∃w,w=wc:=⟨_,rfl⟩
   subst hwc
   have HW1:Hid (wrap64 (((hd i).size:Int)+2)=((hd i).size:Int)+2):=Hd (Mem.w64 (by omega) (by have:=HSZ.out.2;have:=HLE.out;have:=HTOP.out;omega))
   have HW2:Hid (wrap64 (((ss 0).size:Int)-((ss i).size:Int)+(((hd i).size:Int)+2))=((ss 0).size:Int)-((ss (i+1)).size:Int)):=Hd (by
    have h1:=HNX.out
    have h2:=HSZ.out.2
    have h3:=HLE.out
    have h4:=HTOP.out
    rw[Mem.w64 (by omega) (by omega)]
    omega)
   have hs3:∀W,(Instr.slice 9 (.string (ss i)) (some (.int .i64 (((hd i).size:Int)+2))) none none).run prog W=.ok (.string (ss (i+1))) W:=fun W=>by
    rw[run_slice_string_l (P:=prog) W 9 (ss i) (by kernel_rfl) .i64 (((hd i).size:Int)+2) (by omega) (by have:=HSZ.out.2;omega)]
    rw[←HF.out.cut i HLT.out]
    congr 3
   have x1:=aA HR5.out 1
   have x2:=aA HR5.out 2
   have xf:∀o,X.frozen? ⟨w.heap.size,o,none⟩=false:=fun o=>fH HR5.out o
   have xl2:=(gLt HR5.out)
   clear x0 xl y0 y1 y2 yl
   have hw1:=HW1.out
   have hw2:=HW2.out
   go_wp2_with fail
   go_roundw
   case rel=>exact⟨i+1,A5,c5,vs5,HLT.out,rfl,HV5,Hd (aE _ _ 2 _ 342 _ (aE X _ 1 _ 342 _ HR5.out)),Hd ((HO5.out.far (p:=⟨w.heap.size,1,none⟩) (Nat.lt_succ_self _) _).far (p:=⟨w.heap.size,2,none⟩) (Nat.lt_succ_self _) _),Hd ((HRO5.out.far (p:=⟨w.heap.size,1,none⟩) (Nat.lt_succ_self _) _).far (p:=⟨w.heap.size,2,none⟩) (Nat.lt_succ_self _) _),Hd (aF (p:=⟨w.heap.size,2,none⟩) (aF (p:=⟨w.heap.size,1,none⟩) HB5.out nR _) nR _)⟩
   case measure=>
    clear hw1 hw2
    unfold aHy
    rw[aA (aE _ _ 2 _ 342 (.string (ss (i+1))) (aE X _ 1 _ 342 _ HR5.out)) 2,aA HR.out 2]
    show(ss (i+1)).size<(ss i).size
    have:=HNX.out
    omega
  ·obtain rfl:i=N:=by omega
   have HLA:=Hd HF.out.last
   rw[HLA.out] at HR
   have hz0:((ss 0).size:Int)-((ByteArray.mk #[]).size:Int)=((ss 0).size:Int):=by
    show((ss 0).size:Int)-0=_
    omega
   rw[hz0] at HR
   have HRE:Hid (∀W,W.heap[w.heap.size]?=some (.cells #[.slice A i c,.int .i64 ((ss 0).size:Int),.string ⟨#[]⟩] 342 (0,0))→Calls prog 247 #[.pointer (some ⟨w.heap.size,0,none⟩)] W fun e w'=>e=.returned (.tuple #[.string ⟨#[]⟩,.bool false,.bool false])∧W=w'):=Hd (fun W hW=>aO4 _ _ _ W hW)
   have x0:=aA HR.out 0
   have x1:=aA HR.out 1
   clear hlt hz0
   go_upto_region 11 with(go_at_call 247;go_must (refine(HRE.out _ HR.out).mono ?_;rintro e W1 ⟨rfl,rfl⟩))
   go_region_held3 (fun W'=>W'.cell? ⟨w.heap.size,0,none⟩=some (.slice A i c)∧W'.cell? ⟨w.heap.size,1,none⟩=some (.int .i64 ((ss 0).size:Int))) (go_keep) (fail)
   all_goals go_wp2_with fail
   all_goals rw[Exit.noGoto_ret]
   all_goals exact bodyPost_ret (v:=.tuple #[.slice A i c,.int .i64 ((ss 0).size:Int),.int .i64 0]) (by simp[results,results186,go_sem]) rfl ⟨A,c,vs,rfl,HVL.out,HOW.out.at_.below blw,fun j v hv=>by
    obtain⟨h1,h2,h3,h4⟩:=(HRO.out.below (show Below V.heap.size V _ from blw)) j v hv
    exact⟨h1,h2,h3,h4.lower (Nat.le_succ _)⟩,aD HB.out blw⟩
end Go.Proofs.YtlibhkkckgkkkaaGreatDoor.Tf
