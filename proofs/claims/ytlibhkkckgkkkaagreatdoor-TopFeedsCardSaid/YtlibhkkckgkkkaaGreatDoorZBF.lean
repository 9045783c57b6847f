/- Part of the proof of TopFeeds: QuB QuD MdlA MdlB MdlC MdlD. -/
import Derived.Test.YtlibhkkckgkkkaaGreatDoorZAJ
import Derived.Test.YtlibhkkckgkkkaaGreatDoorZBD
import Derived.Test.YtlibhkkckgkkkaaGreatDoorZBE
import Derived.Shelf.SlIterI.Nil
import Derived.Shelf.SortM.Plain
import Derived.Shelf.SortM.SortNone
set_option maxHeartbeats 2000000
set_option maxRecDepth 100000
namespace Go.Proofs.YtlibhkkckgkkkaaGreatDoor
open Go.RowKit Go.Maps Go.Sort Go.Shelf
def Tryz.dkeys_ren:Go.Shelf.Ren:=⟨fun|7=>282|10=>316|n=>n,fun|23=>133|26=>3|3=>311|28=>363|0=>0|27=>362|33=>224|4=>4|n=>n,fun|n=>n⟩
theorem Tryz.dkeys:Go.Proofs.SlLaysZI.n7 Tryz.prog Tryz.dkeys_ren:={mixed:=by kernel_rfl,f7:=⟨Tryz.f282.name,by decide,fK_ Tryz.func282⟩,f10:=⟨Tryz.f316.name,by decide,fK_ Tryz.func316⟩,t0:=Tryz.underlying0,a0:=Tryz.isAgg0,z0:=Tryz.sizeOf0,v0:=Tryz.zeroValue0,t4:=Tryz.underlying4,a4:=Tryz.isAgg4,z4:=Tryz.sizeOf4,v4:=Tryz.zeroValue4,t23:=Tryz.underlying133,a23:=Tryz.isAgg133,z23:=Tryz.sizeOf133,v23:=Tryz.zeroValue133,t26:=Tryz.underlying3,a26:=Tryz.isAgg3,z26:=Tryz.sizeOf3,v26:=Tryz.zeroValue3,t27:=Tryz.underlying362,a27:=Tryz.isAgg362,z27:=Tryz.sizeOf362,v27:=Tryz.zeroValue362,t28:=Tryz.underlying363,a28:=Tryz.isAgg363,z28:=Tryz.sizeOf363,v28:=Tryz.zeroValue363,t33:=Tryz.underlying224,a33:=Tryz.isAgg224,z33:=Tryz.sizeOf224,v33:=Tryz.zeroValue224}
def Tryz.dsorted_ren:Go.Shelf.Ren:=⟨fun|6=>281|8=>314|9=>315|11=>331|13=>333|12=>332|23=>361|24=>348|14=>352|15=>353|16=>354|17=>355|18=>356|19=>357|20=>358|21=>359|22=>360|25=>368|26=>369|27=>370|28=>371|29=>372|30=>373|31=>375|n=>n,fun|26=>3|28=>363|24=>23|0=>0|3=>3|37=>370|48=>399|50=>405|4=>4|40=>430|39=>429|45=>46|5=>5|9=>9|51=>438|55=>442|57=>447|58=>280|33=>224|n=>n,fun|n=>n⟩
theorem Tryz.dsorted:Go.Proofs.SlLaysZI.n6 Tryz.prog Tryz.dsorted_ren:={mixed:=by kernel_rfl,f6:=⟨Tryz.f281.name,by decide,fK_ Tryz.func281⟩,f8:=⟨Tryz.f314.name,by decide,fK_ Tryz.func314⟩,f11:=⟨Tryz.f331.name,by decide,fK_ Tryz.func331⟩,t0:=Tryz.underlying0,a0:=Tryz.isAgg0,z0:=Tryz.sizeOf0,v0:=Tryz.zeroValue0,t24:=Tryz.underlying23,a24:=Tryz.isAgg23,z24:=Tryz.sizeOf23,v24:=Tryz.zeroValue23,t26:=Tryz.underlying3,a26:=Tryz.isAgg3,z26:=Tryz.sizeOf3,v26:=Tryz.zeroValue3,t28:=Tryz.underlying363,a28:=Tryz.isAgg363,z28:=Tryz.sizeOf363,v28:=Tryz.zeroValue363,i26:=by kernel_rfl}
def Tryz.dsort_ren:Go.Shelf.Ren:=⟨fun|5=>315|8=>333|7=>332|19=>361|20=>348|10=>352|11=>353|12=>354|13=>355|14=>356|15=>357|16=>358|17=>359|18=>360|30=>368|31=>369|32=>370|33=>371|34=>372|35=>373|40=>375|n=>n,fun|23=>23|25=>3|3=>3|32=>370|22=>23|0=>0|44=>399|46=>405|4=>4|36=>430|35=>429|41=>46|5=>5|9=>9|53=>438|57=>442|63=>447|64=>280|n=>n,fun|n=>n⟩
theorem Tryz.dsort:Go.Proofs.SlLaysM.n5 Tryz.prog Tryz.dsort_ren:={mixed:=by kernel_rfl,f5:=⟨Tryz.f315.name,by decide,fK_ Tryz.func315⟩,f7:=⟨Tryz.f332.name,by decide,fK_ Tryz.func332⟩,f8:=fK_ Tryz.func333,f10:=⟨Tryz.f352.name,by decide,fK_ Tryz.func352⟩,f11:=⟨Tryz.f353.name,by decide,fK_ Tryz.func353⟩,f12:=⟨Tryz.f354.name,by decide,fK_ Tryz.func354⟩,f13:=⟨Tryz.f355.name,by decide,fK_ Tryz.func355⟩,f14:=⟨Tryz.f356.name,by decide,fK_ Tryz.func356⟩,f15:=⟨Tryz.f357.name,by decide,fK_ Tryz.func357⟩,f16:=⟨Tryz.f358.name,by decide,fK_ Tryz.func358⟩,f17:=⟨Tryz.f359.name,by decide,fK_ Tryz.func359⟩,f18:=⟨Tryz.f360.name,by decide,fK_ Tryz.func360⟩,f19:=fK_ Tryz.func361,f20:=fK_ Tryz.func348,f30:=⟨Tryz.f368.name,by decide,fK_ Tryz.func368⟩,f31:=fK_ Tryz.func369,f32:=fK_ Tryz.func370,f33:=⟨Tryz.f371.name,by decide,fK_ Tryz.func371⟩,f34:=⟨Tryz.f372.name,by decide,fK_ Tryz.func372⟩,f35:=⟨Tryz.f373.name,by decide,fK_ Tryz.func373⟩,f40:=⟨Tryz.f375.name,by decide,fK_ Tryz.func375⟩,t0:=Tryz.underlying0,a0:=Tryz.isAgg0,z0:=Tryz.sizeOf0,v0:=Tryz.zeroValue0,t3:=Tryz.underlying3,a3:=Tryz.isAgg3,z3:=Tryz.sizeOf3,v3:=Tryz.zeroValue3,t4:=Tryz.underlying4,a4:=Tryz.isAgg4,z4:=Tryz.sizeOf4,v4:=Tryz.zeroValue4,t5:=Tryz.underlying5,a5:=Tryz.isAgg5,z5:=Tryz.sizeOf5,v5:=Tryz.zeroValue5,t9:=Tryz.underlying9,a9:=Tryz.isAgg9,z9:=Tryz.sizeOf9,v9:=Tryz.zeroValue9,t22:=Tryz.underlying23,a22:=Tryz.isAgg23,z22:=Tryz.sizeOf23,v22:=Tryz.zeroValue23,t23:=Tryz.underlying23,a23:=Tryz.isAgg23,z23:=Tryz.sizeOf23,v23:=Tryz.zeroValue23,t25:=Tryz.underlying3,a25:=Tryz.isAgg3,z25:=Tryz.sizeOf3,v25:=Tryz.zeroValue3,t32:=Tryz.underlying370,a32:=Tryz.isAgg370,z32:=Tryz.sizeOf370,v32:=Tryz.zeroValue370,t35:=Tryz.underlying429,a35:=Tryz.isAgg429,z35:=Tryz.sizeOf429,v35:=Tryz.zeroValue429,t36:=Tryz.underlying430,a36:=Tryz.isAgg430,z36:=Tryz.sizeOf430,v36:=Tryz.zeroValue430,t41:=Tryz.underlying46,a41:=Tryz.isAgg46,z41:=Tryz.sizeOf46,v41:=Tryz.zeroValue46,t44:=Tryz.underlying399,a44:=Tryz.isAgg399,z44:=Tryz.sizeOf399,v44:=Tryz.zeroValue399,t46:=Tryz.underlying405,a46:=Tryz.isAgg405,z46:=Tryz.sizeOf405,v46:=Tryz.zeroValue405,t53:=Tryz.underlying438,a53:=Tryz.isAgg438,z53:=Tryz.sizeOf438,v53:=Tryz.zeroValue438,t57:=Tryz.underlying442,a57:=Tryz.isAgg442,z57:=Tryz.sizeOf442,v57:=Tryz.zeroValue442,t63:=Tryz.underlying447,a63:=Tryz.isAgg447,z63:=Tryz.sizeOf447,v63:=Tryz.zeroValue447,t64:=Tryz.underlying280,a64:=Tryz.isAgg280,z64:=Tryz.sizeOf280,v64:=Tryz.zeroValue280}
theorem Tryz.dsorts (m:Nat):AnyZI.SortsIn Tryz.prog Tryz.dsorted_ren Fence.wide m:=
 ⟨fun blk off cap ss W hH hblk hsz=>callsIn_wide.2 (AnyM.slices_Sort_int Tryz.dsort blk off cap ss W hH hblk hsz),
  fun p cap W=>callsIn_wide.2 (AnyM.slices_Sort_int_none Tryz.dsort p cap W)⟩
theorem Tryz.dirty_none (qb db clk:Nat) (hb:Value) (n:Int) (w:World) (h1:w.heap[qb]?=some (.cells #[hb,.int .i64 n,.map (some db)] 135 (0,0))) (h3:w.heap[db]?=some (.map #[] clk)):
 Calls Tryz.prog 223 #[.pointer (some ⟨qb,0,none⟩)] w fun e w'=>e=.returned (.slice none 0 0)∧Below w.heap.size w w':=by
 have c2:w.cell? ⟨qb,2,none⟩=some (.map (some db)):=Tf.aA h1 2
 refine(callsIn_wide (n:=6)).1 ?_
 have hown:w.ownsMap (H:=Unit) Tryz.prog 3 (fun _=>none) db 0 (.map []):=⟨#[],clk,h3,⟨by simp,MapKept.stamped_empty clk,by simp⟩,Nat.le_refl _,rfl⟩
 have hbl:=hown.lt
 have hseq:SeqGives Fence.wide 2 Tryz.prog 316 #[.pointer (some ⟨w.heap.size,0,none⟩)] encZ (fun ss=>ss.Perm (intKeys (H:=Unit) (.map []))) (Maps.size (H:=Unit) (.map [])) (w.alloc (.cells #[.map (some db)] 133)):=
  AnyZI.keys_gives (ρ:=Tryz.dkeys_ren) {Tryz.dkeys with} Fence.wide _ trivial rfl (by omega) w.heap.size db 0 (.map []) _ (by simp) (by simp) (by
   obtain⟨es,clock,hb,Ft,hs,hD⟩:=hown
   exact⟨es,clock,(Below.heap_alloc _ _ db hbl).trans hb,Ft,hs,hD⟩)
 have cK:∀mb W,CallsIn Fence.wide 5 Tryz.prog 282 #[.map mb] W fun e w'=>e=.returned (.func (.func 316) #[] #[.pointer (some ⟨W.heap.size,0,none⟩)])∧w'=W.alloc (.cells #[.map mb] 133):=fun mb W=>AnyZI.keys_in Tryz.dkeys Fence.wide 5 trivial rfl mb W
 have cS:=AnyZI.sorted_in Tryz.dsorted Fence.wide 5 trivial trivial trivial trivial rfl (by omega) (Tryz.dsorts _) (enters_of Tryz.func315 (by kernel_rfl) rfl) 316 #[.pointer (some ⟨w.heap.size,0,none⟩)] trivial (enters_of Tryz.func316 (by kernel_rfl) rfl) _ _ (by simp[Maps.size]) (by simp[Maps.size]) _ hseq
 change CallsIn _ _ Tryz.prog 281 _ _ _ at cS
 have hfK:Fence.wide.fn 282:=trivial
 have hfS:Fence.wide.fn 281:=trivial
 clear hseq hown
 refine callsIn_of_wp Tryz.func223 rfl trivial ?_ rfl
 simp only[Tryz.ntmps223,List.size_toArray,List.length_cons,List.length_nil,Nat.reduceAdd,Nat.reduceSub,Array.replicate_succ,Array.replicate_zero,List.push_toArray,List.append_toArray,List.nil_append,List.cons_append]
 gi_wp2_with (first
  |(gi_at_call 282;refine(cK _ _).mono ?_;rintro e w' ⟨rfl,rfl⟩)
  |(gi_at_call 281;refine cS.mono ?_;rintro e w' ⟨v,ss,rfl,hS,hrow,hnil,hb⟩))
 go_ret
 have hss:ss=[]:=by
  have h0:intKeys (H:=Unit) (.map [])=[]:=by simp[intKeys]
  rw[h0] at hS
  exact hS.eq_nil
 refine⟨by rw[hnil.2 hss];rfl,?_⟩
 exact(Mem.aB (Below.refl _ _) _).trans (hb.mono (by simp))
end Go.Proofs.YtlibhkkckgkkkaaGreatDoor
namespace Go.Proofs.YtlibhkkckgkkkaaGreatDoor.Tf
open Go.RowKit Go.Proofs.YtlibhkkckgkkkaaGreatDoor.Mem Go.Proofs.YtlibhkkckgkkkaaGreatDoor.Boo Go.Proofs.Tryz
theorem kP.below {hb pb B:Nat} {xs:List (Int×Int)} {w w':World} (h:kP hb pb B xs w) (k:Below w.heap.size w w'):kP hb pb B xs w':=by
 obtain⟨A,c,es,clk,h1,h2,h3,h4⟩:=h.ex
 exact⟨A,c,es,clk,(k.block hb (gLt h1)).trans h1,h2.below k,(k.block pb (gLt h3)).trans h3,h4⟩
theorem fB.below {qb hb pb db B:Nat} {xs:List (Int×Int)} {w w':World} (h:fB qb hb pb db B xs w) (k:Below w.heap.size w w'):fB qb hb pb db B xs w':=by
 obtain⟨h1,h2,⟨clk,h3⟩,h4,h5⟩:=h
 exact⟨(k.block qb (gLt h1)).trans h1,h2.below k,⟨clk,(k.block db (gLt h3)).trans h3⟩,h4,h5⟩
theorem yS (qb hb pb db B:Nat) (xs:List (Int×Int)) (w:World) (h:fB qb hb pb db B xs w):Calls prog 139 #[.pointer (some ⟨qb,0,none⟩),.int .i64 0] w (Ret (.tuple #[]) w):=by
 have HD:Hid (Calls prog 223 #[.pointer (some ⟨qb,0,none⟩)] w fun e w'=>e=.returned (.slice none 0 0)∧Below w.heap.size w w'):=Hd (by
  obtain⟨h1,h2,⟨clk,h3⟩,_⟩:=h
  exact Tryz.dirty_none qb db clk _ 10 w h1 h3)
 clear h
 go_enter func139,ntmps139
 go_wp2_with (go_at_call 223;go_must (refine HD.out.mono ?_;rintro e W1 ⟨rfl,hb1⟩;have HB1:=Hd hb1;clear hb1))
 go_loopw [9] (fun iv wr=>iv=.int .i64 0∧wr=W1) (fun _ _=>0)
 case atStart=>exact⟨rfl,rfl⟩
 case round=>
  obtain⟨rfl,rfl⟩:=hrel
  go_wp2_with fail
  go_end0
  exact⟨rfl,HB1.out⟩
theorem aDz (qb hb pb db B:Nat) (q:Int) (w:World) (h:fB qb hb pb db B [(0,q)] w):Calls prog 70 #[.pointer (some ⟨qb,0,none⟩),.int .i64 0] w fun e w'=>e=.returned (.tuple #[.int .i64 0,.bool true])∧fB qb hb pb db B [] w'∧iE hb pb db B w w':=by
 have HSW:Hid (∀W,fB qb hb pb db B [] W→Calls prog 139 #[.pointer (some ⟨qb,0,none⟩),.int .i64 0] W (Ret (.tuple #[]) W)):=Hd (fun W hW=>yS qb hb pb db B [] W hW)
 obtain⟨h1,h2,⟨clk,h3⟩,h4,l1,l2,l3,l4⟩:=h
 obtain⟨ib,c,hI⟩:=h2.toI
 have HPP:=Hd (aLt hb pb B ib c l2 l3 q w hI)
 have c0:w.cell? ⟨qb,0,none⟩=some (.pointer (some ⟨hb,0,none⟩)):=aA h1 0
 have H1:=Hd h1
 have H2:=Hd h2
 have H3:=Hd h3
 have H4:=Hd h4
 have HBW:Hid (B≤w.heap.size):=Hd (by have:=hI.lt;omega)
 clear h1 h2 h3 h4 hI
 go_enter func70,ntmps70
 go_wp2_with (first
  |(go_at_call 138;go_must (refine HPP.out.mono ?_;rintro e W1 ⟨rfl,hE,hk⟩;have HQ1:Hid (fB qb hb pb db B [] W1):=Hd ⟨pP H2.out H1.out hk,hE,⟨clk,sD H2.out H3.out H4.out hk⟩,H4.out,l1,l2,l3,l4⟩;have HK:=Hd hk;clear hE hk))
  |(go_at_call 139;go_must (refine(HSW.out _ (HQ1.out.below (aB bR _))).mono ?_;rintro e W2 ⟨rfl,hb⟩;have HB2:=bst W1 hb;(obtain⟨⟨kc1_0_0,kc1_0_1⟩,kl1_0,kf1_0⟩:=kb2 hb (W1.heap.size) (.int .i64 0) (.int .i64 q));clear hb)))
 go_ret2
 exact⟨rfl,HQ1.out.below HB2.out,(HK.out.trans (iF.of (Nat.le_trans HBW.out HK.out.size) HB2.out)).toQ db⟩
def One (xs:List (Int×Int)):Prop:=xs=[]∨∃q,xs=[(0,q)]
theorem aFo (qb hb pb db B p:Nat) (hp:p≤1000) (xs:List (Int×Int)) (hx:One xs) (w:World) (h:fB qb hb pb db B xs w):Calls prog 124 #[.pointer (some ⟨qb,0,none⟩),.int .i64 0,.int .i64 p,.int .i64 0] w fun e w'=>e=.returned (.int .i64 0)∧(∃q,fB qb hb pb db B [(0,q)] w')∧iE hb pb db B w w':=by
 rcases hx with rfl|⟨q,rfl⟩
 ·exact aCs qb hb pb db B p hp w h
 ·exact aCr qb hb pb db B p hp q w h
theorem aOc (mb qb hb pb db B p:Nat) (hp:p≤1000) (xs:List (Int×Int)) (hx:One xs) (w:World) (h:fB qb hb pb db B xs w) (m0:w.cell? ⟨mb,0,none⟩=some (.int .i64 0)) (m3:w.cell? ⟨mb,3,none⟩=some (.pointer (some ⟨qb,0,none⟩))):Calls prog 63 #[.pointer (some ⟨mb,0,none⟩),.int .i64 0,.int .i64 p] w fun e w'=>e=.returned (.tuple #[])∧(∃q,fB qb hb pb db B [(0,q)] w')∧iE hb pb db B w w':=by
 have HW:=Hd (aFo qb hb pb db B p hp xs hx w.drew (h.below (aI bR)))
 have n0:w.drew.cell? ⟨mb,0,none⟩=some (.int .i64 0):=m0
 have n3:w.drew.cell? ⟨mb,3,none⟩=some (.pointer (some ⟨qb,0,none⟩)):=m3
 clear h m0 m3 hp hx
 go_enter func63,ntmps63
 go_wp2_with fail
 refine wp_region_still_tail 10 (by kernel_rfl) (by kernel_rfl) ?_
 simp only[List.take_succ_cons,List.take_zero,List.drop_succ_cons,List.drop_zero]
 change wpStill prog _ w.drew _ _ _
 repeat still_step
 refine wpStill_nil ?_
 change wpList prog _ _ _ _ w.drew
 go_wp2_with (go_at_call 124;go_must (refine HW.out.mono ?_;rintro e W1 ⟨rfl,hq,hk⟩;have HQ:=Hd hq;have HK:=Hd hk;clear hq hk))
 go_end0
 exact⟨rfl,HQ.out,(aI (Below.refl B w)).trans HK.out.below,HK.out.other,HK.out.size⟩
theorem aG1 (mb c:Nat) (A:Option Addr) (s:ByteArray) (w:World) (m1:w.cell? ⟨mb,1,none⟩=some (.slice A 0 c)):Calls prog 61 #[.pointer (some ⟨mb,0,none⟩),.string s] w (Ret (.int .i64 (-1)) w):=by
 have hmf:∀(fn:Fn) (first cap:Array Value) (w:World),(Instr.makeFunc fn first cap).run prog w=.ok (.func fn first cap) w:=fun _ _ _ _=>rfl
 have hml:=bL w _ m1
 dsimp only at hml
 have HI:Hid (∀W f,Calls prog 122 #[.slice A 0 c,f] W (Ret (.int .i64 (-1)) W)):=Hd (fun W f=>by
  go_enter func122,ntmps122
  go_wp2_with fail
  go_loopw [8] (fun iv wr=>iv=.int .i64 0∧wr=W) (fun _ _=>0)
  case atStart=>exact⟨rfl,rfl⟩
  case round=>
   obtain⟨rfl,rfl⟩:=hrel
   go_wp2_with fail
   go_ret
   exact⟨rfl,bR⟩)
 go_enter func61,ntmps61
 go_wp2_with (first
  |(go_at_call 122;go_must (refine rB w (HI.out _ _) ?_;intro W1 HB1)))
 go_ret
 exact⟨rfl,blw⟩
def SkAt (sb:Nat) (s:ByteArray) (g b:Value) (l a:Int) (r:Value) (z:Int) (w:World):Prop:=
 w.cell? ⟨sb,0,none⟩=some (.string s)∧w.cell? ⟨sb,1,none⟩=some g∧w.cell? ⟨sb,2,none⟩=some b∧w.cell? ⟨sb,3,none⟩=some (.int .i64 l)∧w.cell? ⟨sb,4,none⟩=some (.int .i64 a)∧w.cell? ⟨sb,5,none⟩=some r∧w.cell? ⟨sb,6,none⟩=some (.int .i64 z)
theorem zF (mb c sb:Nat) (s:ByteArray) (g:Option Addr) (bA:Option Addr) (bn bc:Nat) (l a:Int) (rA:Option Addr) (rn rc:Nat) (z:Int) (w:World) (m1:w.cell? ⟨mb,1,none⟩=some (.slice (some ⟨sb,0,none⟩) 1 c)) (h:SkAt sb s (.pointer g) (.slice bA bn bc) l a (.slice rA rn rc) z w):Calls prog 61 #[.pointer (some ⟨mb,0,none⟩),.string s] w (Ret (.int .i64 0) w):=by
 have hmf:∀(fn:Fn) (first cap:Array Value) (w:World),(Instr.makeFunc fn first cap).run prog w=.ok (.func fn first cap) w:=fun _ _ _ _=>rfl
 obtain⟨s0,s1,s2,s3,s4,s5,s6⟩:=h
 have hsl:=bL w _ s0
 have hml:=bL w _ m1
 dsimp only at hml hsl
 have HC:Hid (∀W q,W.cell? ⟨q,0,none⟩=some (.string s)→Calls prog 123 #[.agg #[.string s,.pointer g,.slice bA bn bc,.int .i64 l,.int .i64 a,.slice rA rn rc,.int .i64 z],.pointer (some ⟨q,0,none⟩)] W (Ret (.bool true) W)):=Hd (fun W q hq=>by
  have hql:=bL W _ hq
  dsimp only at hql
  go_enter func123,ntmps123
  go_wp2_with fail
  go_ret
  exact⟨by simp,blw⟩)
 have HI:Hid (∀W q,Below w.heap.size w W→W.cell? ⟨q,0,none⟩=some (.string s)→Calls prog 122 #[.slice (some ⟨sb,0,none⟩) 1 c,.func (.func 123) #[] #[.pointer (some ⟨q,0,none⟩)]] W (Ret (.int .i64 0) W)):=Hd (fun W q hW hq=>by
  have t0:W.cell? ⟨sb,0,none⟩=some (.string s):=aC hW s0
  have t1:W.cell? ⟨sb,1,none⟩=some (.pointer g):=aC hW s1
  have t2:W.cell? ⟨sb,2,none⟩=some (.slice bA bn bc):=aC hW s2
  have t3:W.cell? ⟨sb,3,none⟩=some (.int .i64 l):=aC hW s3
  have t4:W.cell? ⟨sb,4,none⟩=some (.int .i64 a):=aC hW s4
  have t5:W.cell? ⟨sb,5,none⟩=some (.slice rA rn rc):=aC hW s5
  have t6:W.cell? ⟨sb,6,none⟩=some (.int .i64 z):=aC hW s6
  have HCC:=Hd (HC.out W q hq)
  clear s0 s1 s2 s3 s4 s5 s6 HC hW
  go_enter func122,ntmps122
  go_wp2_with fail
  go_loopw [8] (fun iv wr=>iv=.int .i64 0∧wr=W) (fun _ _=>0)
  case atStart=>exact⟨rfl,rfl⟩
  case round=>
   obtain⟨rfl,rfl⟩:=hrel
   go_wp2_with (first
    |(go_at_call 123;go_must (refine HCC.out.mono ?_;rintro e W1 ⟨rfl,hb⟩;have HB1:=Hd hb;clear hb)))
   go_ret
   exact⟨rfl,HB1.out⟩)
 clear s0 s1 s2 s3 s4 s5 s6 HC
 go_enter func61,ntmps61
 go_wp2_with (first
  |(go_at_call 122;go_must (refine rB w (HI.out _ _ blw (by go_simp)) ?_;intro W1 HB1)))
 go_ret
 exact⟨rfl,blw⟩
theorem rV (n:Int) (w:World):Calls prog 23 #[.int .i64 0,.int .i64 n] w (Ret (.agg #[.int .i64 0,.int .i64 n]) w):=by
 go_enter func23,ntmps23
 go_wp2_with fail
 exact bodyPost_ret (v:=.agg #[.int .i64 0,.int .i64 n]) (by simp[results,results23,go_sem, *]) rfl ⟨rfl,blw⟩
theorem aD1 (w:World):Calls prog 8 #[] w fun e w'=>∃mb qb hb pb db,e=.returned (.pointer (some ⟨mb,0,none⟩))∧w'.heap[mb]?=some (.cells #[.int .i64 0,.slice none 0 0,.slice none 0 0,.pointer (some ⟨qb,0,none⟩),.slice none 0 0,.slice none 0 0,.slice none 0 0,.int .i64 0] 73 (0,0))∧fB qb hb pb db w.heap.size [] w'∧w.heap.size≤mb∧Below w.heap.size w w':=by
 have HQ:=Hd (aDi w)
 go_enter func8,ntmps8
 go_wp2_with (go_at_call 22;go_must (refine HQ.out.mono ?_;rintro e W1 ⟨qb,hb,pb,db,rfl,hq,hb1,hlt⟩;have HQ1:=Hd hq;have HB1:=Hd hb1;clear hq hb1))
 go_ret
 exact⟨W1.heap.size,qb,hb,pb,db,rfl,aN W1 _,HQ1.out.below (aB bR _),HB1.out.size,blw⟩
end Go.Proofs.YtlibhkkckgkkkaaGreatDoor.Tf
namespace Go.Proofs.YtlibhkkckgkkkaaGreatDoor.Tf
open Go.RowKit Go.Proofs.YtlibhkkckgkkkaaGreatDoor.Mem Go.Proofs.YtlibhkkckgkkkaaGreatDoor.Boo
structure Sku where
 name:ByteArray
 g:Option Addr
 bA:Option Addr
 bn:Nat
 bc:Nat
 last:Int
 at_:Int
 rA:Option Addr
 rn:Nat
 rc:Nat
 z:Int
def dSk:En Sku:=⟨fun x=>[.string x.name,.pointer x.g,.slice x.bA x.bn x.bc,.int .i64 x.last,.int .i64 x.at_,.slice x.rA x.rn x.rc,.int .i64 x.z],7,by omega,fun _=>rfl,fun x u hu=>by simp at hu;rcases hu with rfl|rfl|rfl|rfl|rfl|rfl|rfl <;> rfl⟩
def dSh:En (Int×Int):=⟨fun x=>[.int .i64 x.1,.int .i64 x.2],2,by omega,fun _=>rfl,fun x u hu=>by simp at hu;rcases hu with rfl|rfl <;> rfl⟩
theorem aMx:(Tryz.prog.info? 143).map (fun i=>(i.zero,i.size,i.bytes))=some (some (.agg #[.string ⟨#[]⟩,.pointer none,.slice none 0 0,.int .i64 0,.int .i64 0,.slice none 0 0,.int .i64 0]),7,96):=by kernel_rfl
theorem aMw:(Tryz.prog.info? 145).map (fun i=>(i.zero,i.size,i.bytes))=some (some (.agg #[.int .i64 0,.int .i64 0,.int .i64 0,.int .i64 0,.int .i64 0]),5,40):=by kernel_rfl
theorem aMv:(Tryz.prog.info? 147).map (fun i=>(i.zero,i.size,i.bytes))=some (some (.agg #[.int .i64 0,.int .i64 0]),2,16):=by kernel_rfl
theorem rQ {α:Type} {d:En α} {e:TypeId} {w w':World} {base c:Nat} {A:Option Addr} {xs:List α} (h:d.Own e w base A c xs) (hk:∀r o,(Value.slice A xs.length c).ownBlock=some r→w.heap[r]?=some o→w'.heap[r]?=some o):d.Own e w' base A c xs:=by
 refine⟨h.1,?_⟩
 rcases h.2 with h0|⟨g,cap,cur,hv,hb,hg,rest⟩
 ·exact .inl h0
 ·exact .inr ⟨g,cap,cur,hv,hb,hk g _ (by rw[hv];rfl) hg,rest⟩
end Go.Proofs.YtlibhkkckgkkkaaGreatDoor.Tf
