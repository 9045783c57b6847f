/- Part of the proof of TopFeeds: RunF RunG RunH RunI RunJ RunK. -/
import Derived.Test.YtlibhkkckgkkkaaGreatDoorZBA
set_option maxHeartbeats 8000000
set_option maxRecDepth 100000
namespace Go.Proofs.YtlibhkkckgkkkaaGreatDoor.Tf
open Go.RowKit Go.Proofs.YtlibhkkckgkkkaaGreatDoor.Mem Go.Proofs.YtlibhkkckgkkkaaGreatDoor.Boo Go.Proofs.Tryz
def lJ (v n:Int):Int×Int:=if MoneyA.dU v=true∧-100000≤n∧n≤100000 then MoneyA.oB (v * n) false else(0,10)
theorem aO6 (v n:Int) (w:World):Calls prog 235 #[.int .i64 v,.int .i64 n,.bool false] w (Ret (.tuple #[.int .i64 (lJ v n).1,.int .i64 (lJ v n).2]) w):=by
 unfold lJ
 by_cases h:MoneyA.dU v=true∧-100000≤n∧n≤100000
 ·rw[if_pos h]
  refine(MoneyA.aLu v n false w h.1 h.2.1 h.2.2).mono ?_
  rintro e w' ⟨rfl,rfl⟩
  exact⟨rfl,bR⟩
 ·rw[if_neg h]
  refine(MoneyA.aG6 v n false w h).mono ?_
  rintro e w' ⟨rfl,rfl⟩
  exact⟨rfl,bR⟩
theorem aN1 (g:Nat) (o n:Int) (s:ByteArray) (v:Int) (w:World) (hG:w.heap[g]?=some (.cells #[.int .i64 o,.int .i64 n,.string s] 197 (0,0))):Calls prog 233 #[.int .i64 v,.pointer (some ⟨g,0,none⟩)] w (Ret (.tuple #[.int .i64 n,.int .i64 0]) w):=by
 have c1:w.cell? ⟨g,1,none⟩=some (.int .i64 n):=aA hG 1
 clear hG
 go_enter func233,ntmps233
 go_wp2_with fail
 go_ret2
 exact⟨rfl,blw⟩
theorem aN0 (g:Nat) (o n:Int) (s:ByteArray) (v:Int) (w:World) (hG:w.heap[g]?=some (.cells #[.int .i64 o,.int .i64 n,.string s] 197 (0,0))):Calls prog 234 #[.int .i64 v,.pointer (some ⟨g,0,none⟩)] w (Ret (.tuple #[.int .i64 (lJ v n).1,.int .i64 (lJ v n).2]) w):=by
 have c1:w.cell? ⟨g,1,none⟩=some (.int .i64 n):=aA hG 1
 have HP:Hid (∀W,Calls prog 235 #[.int .i64 v,.int .i64 n,.bool false] W (Ret (.tuple #[.int .i64 (lJ v n).1,.int .i64 (lJ v n).2]) W)):=Hd (fun W=>aO6 v n W)
 generalize lJ v n=r at HP ⊢
 obtain⟨r1,r2⟩:=r
 clear hG
 go_enter func234,ntmps234
 go_wp2_with (first
  |(go_at_call 235;go_must (refine rB w (HP.out _) ?_;intro wq1 Bq1)))
 go_ret2
 exact⟨rfl,blw⟩
theorem aD8 (b:Nat) (F:Value) (o n:Int) (s:ByteArray) (M:MS) (w:World) (hM:MaB b F M w):
 Calls prog 174 #[.pointer (some ⟨b,0,none⟩),.agg #[.int .i64 o,.int .i64 n,.string s]] w fun e w'=>e=.returned (.tuple #[])∧MaB b F (eT (fun _=>(n,0)) M) w'∧aJ b w w':=by
 have hlt:=hM.lt
 have HM:Hid (Calls prog 232 #[.pointer (some ⟨b,0,none⟩),.func (.func 233) #[] #[.pointer (some ⟨w.heap.size,0,none⟩)]] (w.alloc (.cells #[.int .i64 o,.int .i64 n,.string s] 197)) fun e w'=>e=.returned (.tuple #[])∧MaB b F (eT (fun _=>(n,0)) M) w'∧aJ b (w.alloc (.cells #[.int .i64 o,.int .i64 n,.string s] 197)) w'):=Hd (aD3 b w.heap.size F (fun _=>(n,0)) #[.int .i64 o,.int .i64 n,.string s] M _ (hM.below (aB bR _)) (by omega) (aN w _) (fun W v hW=>aN1 w.heap.size o n s v W hW))
 have HB:=Hd hlt
 have hmf:∀(fn:Fn) (first cap:Array Value) (w:World),(Instr.makeFunc fn first cap).run prog w=.ok (.func fn first cap) w:=fun _ _ _ _=>rfl
 clear hM
 go_enter func174,ntmps174
 go_wp2_with (first
  |(go_at_call 232;go_must (refine HM.out.mono ?_;rintro e W1 ⟨rfl,hW1,hk1⟩;have HW1:=Hd hW1;have HK1:=Hd hk1;clear hW1 hk1)))
 go_end0
 exact⟨rfl,HW1.out,((aJ.refl _ _).alloc (Nat.le_of_lt HB.out) _).trans HK1.out⟩
theorem aJp (b:Nat) (F:Value) (o n:Int) (s:ByteArray) (M:MS) (w:World) (hM:MaB b F M w):
 Calls prog 175 #[.pointer (some ⟨b,0,none⟩),.agg #[.int .i64 o,.int .i64 n,.string s]] w fun e w'=>e=.returned (.tuple #[])∧MaB b F (eT (fun v=>lJ v n) M) w'∧aJ b w w':=by
 have hlt:=hM.lt
 have HM:Hid (Calls prog 232 #[.pointer (some ⟨b,0,none⟩),.func (.func 234) #[] #[.pointer (some ⟨w.heap.size,0,none⟩)]] (w.alloc (.cells #[.int .i64 o,.int .i64 n,.string s] 197)) fun e w'=>e=.returned (.tuple #[])∧MaB b F (eT (fun v=>lJ v n) M) w'∧aJ b (w.alloc (.cells #[.int .i64 o,.int .i64 n,.string s] 197)) w'):=Hd (aD2 b w.heap.size F (fun v=>lJ v n) #[.int .i64 o,.int .i64 n,.string s] M _ (hM.below (aB bR _)) (by omega) (aN w _) (fun W v hW=>aN0 w.heap.size o n s v W hW))
 have HB:=Hd hlt
 have hmf:∀(fn:Fn) (first cap:Array Value) (w:World),(Instr.makeFunc fn first cap).run prog w=.ok (.func fn first cap) w:=fun _ _ _ _=>rfl
 clear hM
 go_enter func175,ntmps175
 go_wp2_with (first
  |(go_at_call 232;go_must (refine HM.out.mono ?_;rintro e W1 ⟨rfl,hW1,hk1⟩;have HW1:=Hd hW1;have HK1:=Hd hk1;clear hW1 hk1)))
 go_end0
 exact⟨rfl,HW1.out,((aJ.refl _ _).alloc (Nat.le_of_lt HB.out) _).trans HK1.out⟩
theorem aLl (b:Nat) (o n:Int) (s:ByteArray) (hk:tA 4 n s) (L:List aW) (hL:iY L) (A:Option Addr) (c m:Nat) (hm:L.length=m) (M:MS) (w:World) (G:Gl w) (h:dF.At w A c L) (hM:MaB b (.slice A m c) M w):
 Calls prog 170 #[.pointer (some ⟨b,0,none⟩),.agg #[.int .i64 o,.int .i64 n,.string s]] w fun e w'=>e=.returned (.tuple #[])∧MaB b (.slice A m c) (cX (cC 4 n s L) M) w'∧aJ b w w':=by
 have hlt:=hM.lt
 have hbw:Below w.heap.size w (w.alloc (.cells #[.int .i64 o,.int .i64 n,.string s] 197)):=aB bR _
 have HT:=Hd (nT b 4 o n s hk L hL A c m hm M _ (G.below hbw) (h.below hbw) (hM.below hbw))
 have HB:=Hd hlt
 generalize cX (cC 4 n s L) M=R at HT ⊢
 clear hk hL hm G h hM hbw
 go_enter func170,ntmps170
 go_wp2_with (first
  |(go_at_call 231;go_must (refine HT.out.mono ?_;rintro e W1 ⟨rfl,hW1,hk1⟩;have HW1:=Hd hW1;have HK1:=Hd hk1;clear hW1 hk1)))
 go_end0
 exact⟨rfl,HW1.out,((aJ.refl _ _).alloc (Nat.le_of_lt HB.out) _).trans HK1.out⟩
theorem aD6 (b:Nat) (o n:Int) (s:ByteArray) (hk:tA 1 n s) (L:List aW) (hL:iY L) (A:Option Addr) (c m:Nat) (hm:L.length=m) (M:MS) (w:World) (G:Gl w) (h:dF.At w A c L) (hM:MaB b (.slice A m c) M w):
 Calls prog 171 #[.pointer (some ⟨b,0,none⟩),.agg #[.int .i64 o,.int .i64 n,.string s]] w fun e w'=>e=.returned (.tuple #[])∧MaB b (.slice A m c) (cX (cC 1 n s L) M) w'∧aJ b w w':=by
 have hlt:=hM.lt
 have hbw:Below w.heap.size w (w.alloc (.cells #[.int .i64 o,.int .i64 n,.string s] 197)):=aB bR _
 have HT:=Hd (nT b 1 o n s hk L hL A c m hm M _ (G.below hbw) (h.below hbw) (hM.below hbw))
 have HB:=Hd hlt
 generalize cX (cC 1 n s L) M=R at HT ⊢
 clear hk hL hm G h hM hbw
 go_enter func171,ntmps171
 go_wp2_with (first
  |(go_at_call 231;go_must (refine HT.out.mono ?_;rintro e W1 ⟨rfl,hW1,hk1⟩;have HW1:=Hd hW1;have HK1:=Hd hk1;clear hW1 hk1)))
 go_end0
 exact⟨rfl,HW1.out,((aJ.refl _ _).alloc (Nat.le_of_lt HB.out) _).trans HK1.out⟩
theorem aDa (b:Nat) (o n:Int) (s:ByteArray) (hk:tA 2 n s) (L:List aW) (hL:iY L) (A:Option Addr) (c m:Nat) (hm:L.length=m) (M:MS) (w:World) (G:Gl w) (h:dF.At w A c L) (hM:MaB b (.slice A m c) M w):
 Calls prog 172 #[.pointer (some ⟨b,0,none⟩),.agg #[.int .i64 o,.int .i64 n,.string s]] w fun e w'=>e=.returned (.tuple #[])∧MaB b (.slice A m c) (cX (cC 2 n s L) M) w'∧aJ b w w':=by
 have hlt:=hM.lt
 have hbw:Below w.heap.size w (w.alloc (.cells #[.int .i64 o,.int .i64 n,.string s] 197)):=aB bR _
 have HT:=Hd (nT b 2 o n s hk L hL A c m hm M _ (G.below hbw) (h.below hbw) (hM.below hbw))
 have HB:=Hd hlt
 generalize cX (cC 2 n s L) M=R at HT ⊢
 clear hk hL hm G h hM hbw
 go_enter func172,ntmps172
 go_wp2_with (first
  |(go_at_call 231;go_must (refine HT.out.mono ?_;rintro e W1 ⟨rfl,hW1,hk1⟩;have HW1:=Hd hW1;have HK1:=Hd hk1;clear hW1 hk1)))
 go_end0
 exact⟨rfl,HW1.out,((aJ.refl _ _).alloc (Nat.le_of_lt HB.out) _).trans HK1.out⟩
theorem aM6 (b:Nat) (o n:Int) (s:ByteArray) (hk:tA 3 n s) (L:List aW) (hL:iY L) (A:Option Addr) (c m:Nat) (hm:L.length=m) (M:MS) (w:World) (G:Gl w) (h:dF.At w A c L) (hM:MaB b (.slice A m c) M w):
 Calls prog 173 #[.pointer (some ⟨b,0,none⟩),.agg #[.int .i64 o,.int .i64 n,.string s]] w fun e w'=>e=.returned (.tuple #[])∧MaB b (.slice A m c) (cX (cC 3 n s L) M) w'∧aJ b w w':=by
 have hlt:=hM.lt
 have hbw:Below w.heap.size w (w.alloc (.cells #[.int .i64 o,.int .i64 n,.string s] 197)):=aB bR _
 have HT:=Hd (nT b 3 o n s hk L hL A c m hm M _ (G.below hbw) (h.below hbw) (hM.below hbw))
 have HB:=Hd hlt
 generalize cX (cC 3 n s L) M=R at HT ⊢
 clear hk hL hm G h hM hbw
 go_enter func173,ntmps173
 go_wp2_with (first
  |(go_at_call 231;go_must (refine HT.out.mono ?_;rintro e W1 ⟨rfl,hW1,hk1⟩;have HW1:=Hd hW1;have HK1:=Hd hk1;clear hW1 hk1)))
 go_end0
 exact⟨rfl,HW1.out,((aJ.refl _ _).alloc (Nat.le_of_lt HB.out) _).trans HK1.out⟩
theorem sA {α:Type} {st:List α} (h:2≤st.length):∃l x y,st=l++[x]++[y]:=by
 have h1:st≠[]:=by intro e;rw[e] at h;simp at h
 have e1:=(List.dropLast_concat_getLast h1).symm
 have h2:st.dropLast≠[]:=by intro e;have:=congrArg List.length e;simp at this;omega
 have e2:=(List.dropLast_concat_getLast h2).symm
 exact⟨_,_,_,by rw[←e2];exact e1⟩
theorem wT {α:Type} {st:List α} (h:1≤st.length):∃l x,st=l++[x]:=by
 have h1:st≠[]:=by intro e;rw[e] at h;simp at h
 exact⟨_,_,(List.dropLast_concat_getLast h1).symm⟩
def sT (M:MS):Int×Bool:=M.st.getLast?.getD (0,false)
def sndM (M:MS):Int×Bool:=M.st.dropLast.getLast?.getD (0,false)
def two1 (f:(Int×Bool)→(Int×Bool)→Int×Bool) (l:List (Int×Bool)) (x y:Int×Bool) (a:Int):MS:=cX (f x y) ⟨l,a,0⟩
def lO (f:(Int×Bool)→(Int×Bool)→Int×Bool) (M:MS):MS:=if(bC 2 M).e=0 then two1 f M.st.dropLast.dropLast (sndM M) (sT M) M.at_ else bC 2 M
theorem uJ (f:(Int×Bool)→(Int×Bool)→Int×Bool) (l:List (Int×Bool)) (x y:Int×Bool) (a:Int):lO f ⟨l++[x]++[y],a,0⟩=two1 f l x y a:=by
 have hn:bC 2 ⟨l++[x]++[y],a,0⟩=⟨l++[x]++[y],a,0⟩:=if_neg (by simp)
 have h1:(l++[x]++[y]).dropLast=l++[x]:=List.dropLast_concat
 have h2:(l++[x]).dropLast=l:=List.dropLast_concat
 unfold lO sT sndM
 rw[hn,if_pos rfl]
 dsimp only
 rw[h1,h2]
 simp
def mW (f:Int→Int→Int) (x y:Int×Bool):Int×Bool:=if x.2=true∧y.2=true then(f x.1 y.1,true) else(0,false)
def abvV (x y:Int×Bool):Int×Bool:=kA (x.2&&(y.2&&decide (y.1<x.1)))
theorem aNz (a b:Int) (w:World):Calls prog 237 #[.int .i64 a,.int .i64 b] w (Ret (.int .i64 (min a b)) w):=by
 go_enter func237,ntmps237
 go_wp2_with fail
 go_ret
 exact⟨by first|rfl|(congr 2;done)|(congr 2;simp[Int.min_def]),blw⟩
theorem aNy (a b:Int) (w:World):Calls prog 238 #[.int .i64 a,.int .i64 b] w (Ret (.int .i64 (max a b)) w):=by
 go_enter func238,ntmps238
 go_wp2_with fail
 go_ret
 exact⟨by first|rfl|(congr 2;done)|(congr 2;simp[Int.max_def]),blw⟩
theorem aKb (b:Nat) (F:Value) (M:MS) (w:World) (hM:MaB b F M w):
 Calls prog 236 #[.pointer (some ⟨b,0,none⟩),.func (.func 237) #[] #[]] w fun e w'=>e=.returned (.tuple #[])∧MaB b F (lO (mW fun p q=>min p q) M) w'∧aJ b w w':=by
 have hlt:=hM.lt
 have HM:=Hd hM
 by_cases he:(bC 2 M).e=0
 ·obtain⟨en,el,ee⟩:=jK he
  obtain⟨l,x,y,hx⟩:=sA el
  obtain⟨st,a,e0⟩:=M
  dsimp only at hx ee
  subst hx ee
  have HMM:=Hd (uJ (mW fun p q=>min p q) l x y a)
  have HN:Hid (∀W,MaB b F ⟨l++[x]++[y],a,0⟩ W→Calls prog 239 #[.pointer (some ⟨b,0,none⟩),.int .i64 2] W fun e w'=>e=.returned (.bool true)∧MaB b F ⟨l++[x]++[y],a,0⟩ w'∧aJ b W w'):=Hd (fun W hW=>by have:=cU b F 2 _ W hW;rw[en] at this;exact this)
  obtain⟨xn,xp⟩:=x
  obtain⟨yn,yp⟩:=y
  have HT1:Hid (∀W,MaB b F ⟨l++[(xn,xp)]++[(yn,yp)],a,0⟩ W→Calls prog 240 #[.pointer (some ⟨b,0,none⟩)] W fun e w'=>e=.returned (.agg #[.int .i64 yn,.bool yp])∧MaB b F ⟨l++[(xn,xp)],a,0⟩ w'∧aJ b W w'):=Hd (fun W hW=>eQ b F _ (yn,yp) a 0 W hW)
  have HT2:Hid (∀W,MaB b F ⟨l++[(xn,xp)],a,0⟩ W→Calls prog 240 #[.pointer (some ⟨b,0,none⟩)] W fun e w'=>e=.returned (.agg #[.int .i64 xn,.bool xp])∧MaB b F ⟨l,a,0⟩ w'∧aJ b W w'):=Hd (fun W hW=>eQ b F _ (xn,xp) a 0 W hW)
  have HPU:Hid (∀W p q,MaB b F ⟨l,a,0⟩ W→Calls prog 241 #[.pointer (some ⟨b,0,none⟩),.agg #[.int .i64 p,.bool q]] W fun e w'=>e=.returned (.tuple #[])∧MaB b F (cX (p,q) ⟨l,a,0⟩) w'∧aJ b W w'):=Hd (fun W p q hW=>fY b F (p,q) _ W hW)
  clear he en el hM
  have HC:=Hd (fun W=>aNz xn yn W)
  rcases xp <;> rcases yp
  all_goals
   go_enter func236,ntmps236
   go_wp2_with (first
    |(go_at_call 239;go_must (refine(HN.out _ HM.out).mono ?_;rintro e W1 ⟨rfl,hW1,hk1⟩;have HW1:=Hd hW1;have HK1:=Hd hk1;clear hW1 hk1))
    |(go_at_call 240;go_must (first|(refine(HT2.out _ HW2.out).mono ?_;rintro e W3 ⟨rfl,hW3,hk3⟩;have HW3:=Hd hW3;have HK3:=Hd hk3;have hl3:=hW3.lt;clear hW3 hk3)|(refine(HT1.out _ HW1.out).mono ?_;rintro e W2 ⟨rfl,hW2,hk2⟩;have HW2:=Hd hW2;have HK2:=Hd hk2;have hl2:=hW2.lt;clear hW2 hk2)))
    |(go_at_call 237;go_must (refine rC W3 (HC.out _) ?_;intro wq1 hb Bq1;obtain⟨⟨kc1_0_0,kc1_0_1⟩,kl1_0,kf1_0⟩:=kb2 hb (W3.heap.size) (.int .i64 yn) (.bool true);obtain⟨⟨kc1_1_0,kc1_1_1⟩,kl1_1,kf1_1⟩:=kb2 hb (W3.heap.size+1) (.int .i64 xn) (.bool true);clear hb))
    |(go_at_call 241;go_must (refine(HPU.out _ _ _ (HW3.out.below blw)).mono ?_;rintro e W9 ⟨rfl,hW9,hk9⟩;have HW9:=Hd hW9;have HK9:=Hd ((aJ.ofB HW3.out.lt blw).trans hk9);clear hW9 hk9)))
   first|go_end0|refine bodyPost_ret (results_none rfl _ _ _) rfl ?_
   exact⟨rfl,by rw[HMM.out];exact HW9.out,(HK1.out.trans (HK2.out.trans HK3.out)).trans HK9.out⟩
 ·have HMM:Hid (lO (mW fun p q=>min p q) M=bC 2 M):=Hd (if_neg he)
  have ze:((bC 2 M).e==0)=false:=bN he
  have HN:Hid (∀W,MaB b F M W→Calls prog 239 #[.pointer (some ⟨b,0,none⟩),.int .i64 2] W fun e w'=>e=.returned (.bool ((bC 2 M).e==0))∧MaB b F (bC 2 M) w'∧aJ b W w'):=Hd (fun W hW=>cU b F 2 M W hW)
  clear he hM
  go_enter func236,ntmps236
  go_wp2_with (first
   |(go_at_call 239;go_must (refine(HN.out _ HM.out).mono ?_;rintro e W1 ⟨rfl,hW1,hk1⟩;have HW1:=Hd hW1;have HK1:=Hd hk1;clear hW1 hk1)))
  refine bodyPost_ret (results_none rfl _ _ _) rfl ?_
  exact⟨rfl,by rw[HMM.out];exact HW1.out,HK1.out⟩
theorem aKa (b:Nat) (F:Value) (M:MS) (w:World) (hM:MaB b F M w):
 Calls prog 236 #[.pointer (some ⟨b,0,none⟩),.func (.func 238) #[] #[]] w fun e w'=>e=.returned (.tuple #[])∧MaB b F (lO (mW fun p q=>max p q) M) w'∧aJ b w w':=by
 have hlt:=hM.lt
 have HM:=Hd hM
 by_cases he:(bC 2 M).e=0
 ·obtain⟨en,el,ee⟩:=jK he
  obtain⟨l,x,y,hx⟩:=sA el
  obtain⟨st,a,e0⟩:=M
  dsimp only at hx ee
  subst hx ee
  have HMM:=Hd (uJ (mW fun p q=>max p q) l x y a)
  have HN:Hid (∀W,MaB b F ⟨l++[x]++[y],a,0⟩ W→Calls prog 239 #[.pointer (some ⟨b,0,none⟩),.int .i64 2] W fun e w'=>e=.returned (.bool true)∧MaB b F ⟨l++[x]++[y],a,0⟩ w'∧aJ b W w'):=Hd (fun W hW=>by have:=cU b F 2 _ W hW;rw[en] at this;exact this)
  obtain⟨xn,xp⟩:=x
  obtain⟨yn,yp⟩:=y
  have HT1:Hid (∀W,MaB b F ⟨l++[(xn,xp)]++[(yn,yp)],a,0⟩ W→Calls prog 240 #[.pointer (some ⟨b,0,none⟩)] W fun e w'=>e=.returned (.agg #[.int .i64 yn,.bool yp])∧MaB b F ⟨l++[(xn,xp)],a,0⟩ w'∧aJ b W w'):=Hd (fun W hW=>eQ b F _ (yn,yp) a 0 W hW)
  have HT2:Hid (∀W,MaB b F ⟨l++[(xn,xp)],a,0⟩ W→Calls prog 240 #[.pointer (some ⟨b,0,none⟩)] W fun e w'=>e=.returned (.agg #[.int .i64 xn,.bool xp])∧MaB b F ⟨l,a,0⟩ w'∧aJ b W w'):=Hd (fun W hW=>eQ b F _ (xn,xp) a 0 W hW)
  have HPU:Hid (∀W p q,MaB b F ⟨l,a,0⟩ W→Calls prog 241 #[.pointer (some ⟨b,0,none⟩),.agg #[.int .i64 p,.bool q]] W fun e w'=>e=.returned (.tuple #[])∧MaB b F (cX (p,q) ⟨l,a,0⟩) w'∧aJ b W w'):=Hd (fun W p q hW=>fY b F (p,q) _ W hW)
  clear he en el hM
  have HC:=Hd (fun W=>aNy xn yn W)
  rcases xp <;> rcases yp
  all_goals
   go_enter func236,ntmps236
   go_wp2_with (first
    |(go_at_call 239;go_must (refine(HN.out _ HM.out).mono ?_;rintro e W1 ⟨rfl,hW1,hk1⟩;have HW1:=Hd hW1;have HK1:=Hd hk1;clear hW1 hk1))
    |(go_at_call 240;go_must (first|(refine(HT2.out _ HW2.out).mono ?_;rintro e W3 ⟨rfl,hW3,hk3⟩;have HW3:=Hd hW3;have HK3:=Hd hk3;have hl3:=hW3.lt;clear hW3 hk3)|(refine(HT1.out _ HW1.out).mono ?_;rintro e W2 ⟨rfl,hW2,hk2⟩;have HW2:=Hd hW2;have HK2:=Hd hk2;have hl2:=hW2.lt;clear hW2 hk2)))
    |(go_at_call 238;go_must (refine rC W3 (HC.out _) ?_;intro wq2 hb Bq2;obtain⟨⟨kc2_0_0,kc2_0_1⟩,kl2_0,kf2_0⟩:=kb2 hb (W3.heap.size) (.int .i64 yn) (.bool true);obtain⟨⟨kc2_1_0,kc2_1_1⟩,kl2_1,kf2_1⟩:=kb2 hb (W3.heap.size+1) (.int .i64 xn) (.bool true);clear hb))
    |(go_at_call 241;go_must (refine(HPU.out _ _ _ (HW3.out.below blw)).mono ?_;rintro e W9 ⟨rfl,hW9,hk9⟩;have HW9:=Hd hW9;have HK9:=Hd ((aJ.ofB HW3.out.lt blw).trans hk9);clear hW9 hk9)))
   first|go_end0|refine bodyPost_ret (results_none rfl _ _ _) rfl ?_
   exact⟨rfl,by rw[HMM.out];exact HW9.out,(HK1.out.trans (HK2.out.trans HK3.out)).trans HK9.out⟩
 ·have HMM:Hid (lO (mW fun p q=>max p q) M=bC 2 M):=Hd (if_neg he)
  have ze:((bC 2 M).e==0)=false:=bN he
  have HN:Hid (∀W,MaB b F M W→Calls prog 239 #[.pointer (some ⟨b,0,none⟩),.int .i64 2] W fun e w'=>e=.returned (.bool ((bC 2 M).e==0))∧MaB b F (bC 2 M) w'∧aJ b W w'):=Hd (fun W hW=>cU b F 2 M W hW)
  clear he hM
  go_enter func236,ntmps236
  go_wp2_with (first
   |(go_at_call 239;go_must (refine(HN.out _ HM.out).mono ?_;rintro e W1 ⟨rfl,hW1,hk1⟩;have HW1:=Hd hW1;have HK1:=Hd hk1;clear hW1 hk1)))
  refine bodyPost_ret (results_none rfl _ _ _) rfl ?_
  exact⟨rfl,by rw[HMM.out];exact HW1.out,HK1.out⟩
def nD (n:Int) (M:MS):MS:=if(bC 1 M).e=0 then(if(sT M).2=true then⟨(cX (sT M) ⟨M.st.dropLast,M.at_,0⟩).st,n,(cX (sT M) ⟨M.st.dropLast,M.at_,0⟩).e⟩ else⟨M.st.dropLast,M.at_,0⟩) else bC 1 M
def kR (n:Int) (M:MS):MS:=if(bC 1 M).e=0 then⟨M.st.dropLast,(if(sT M).1=0 then n else M.at_),0⟩ else bC 1 M
theorem wQ (l:List (Int×Bool)) (x:Int×Bool) (a:Int):bC 1 ⟨l++[x],a,0⟩=⟨l++[x],a,0⟩:=if_neg (by simp)
theorem aBh (l:List (Int×Bool)) (x:Int×Bool) (a e:Int):sT ⟨l++[x],a,e⟩=x:=by unfold sT;simp
theorem xH (l:List (Int×Bool)) (x:Int×Bool):(l++[x]).dropLast=l:=List.dropLast_concat
theorem aDw (n:Int) (l:List (Int×Bool)) (x:Int×Bool) (a:Int):nD n ⟨l++[x],a,0⟩=if x.2=true then⟨(cX x ⟨l,a,0⟩).st,n,(cX x ⟨l,a,0⟩).e⟩ else⟨l,a,0⟩:=by
 unfold nD
 rw[wQ,aBh]
 dsimp only
 rw[xH,if_pos rfl]
theorem yK (n:Int) (l:List (Int×Bool)) (x:Int×Bool) (a:Int):kR n ⟨l++[x],a,0⟩=⟨l,(if x.1=0 then n else a),0⟩:=by
 unfold kR
 rw[wQ,aBh]
 dsimp only
 rw[xH,if_pos rfl]
set_option linter.unusedSimpArgs false in
theorem aD7 (b:Nat) (F:Value) (o n:Int) (s:ByteArray) (M:MS) (w:World) (hM:MaB b F M w):
 Calls prog 176 #[.pointer (some ⟨b,0,none⟩),.agg #[.int .i64 o,.int .i64 n,.string s]] w fun e w'=>e=.returned (.tuple #[])∧MaB b F (lO (mW fun p q=>min p q) M) w'∧aJ b w w':=by
 have hlt:=hM.lt
 have HT:=Hd (aKb b F M _ (hM.below (aB bR (.cells #[.int .i64 o,.int .i64 n,.string s] 197))))
 have HB:=Hd hlt
 clear hM
 go_enter func176,ntmps176
 go_wp2_with (first
  |(go_at_call 236;go_must (refine HT.out.mono ?_;rintro e W1 ⟨rfl,hW1,hk1⟩;have HW1:=Hd hW1;have HK1:=Hd hk1;clear hW1 hk1)))
 go_end0
 exact⟨rfl,HW1.out,((aJ.refl _ _).alloc (Nat.le_of_lt HB.out) _).trans HK1.out⟩
set_option linter.unusedSimpArgs false in
theorem zZ (b:Nat) (F:Value) (o n:Int) (s:ByteArray) (M:MS) (w:World) (hM:MaB b F M w):
 Calls prog 177 #[.pointer (some ⟨b,0,none⟩),.agg #[.int .i64 o,.int .i64 n,.string s]] w fun e w'=>e=.returned (.tuple #[])∧MaB b F (lO (mW fun p q=>max p q) M) w'∧aJ b w w':=by
 have hlt:=hM.lt
 have HT:=Hd (aKa b F M _ (hM.below (aB bR (.cells #[.int .i64 o,.int .i64 n,.string s] 197))))
 have HB:=Hd hlt
 clear hM
 go_enter func177,ntmps177
 go_wp2_with (first
  |(go_at_call 236;go_must (refine HT.out.mono ?_;rintro e W1 ⟨rfl,hW1,hk1⟩;have HW1:=Hd hW1;have HK1:=Hd hk1;clear hW1 hk1)))
 go_end0
 exact⟨rfl,HW1.out,((aJ.refl _ _).alloc (Nat.le_of_lt HB.out) _).trans HK1.out⟩
set_option linter.unusedSimpArgs false in
theorem aKn (b:Nat) (F:Value) (o n:Int) (s:ByteArray) (M:MS) (w:World) (hM:MaB b F M w):
 Calls prog 180 #[.pointer (some ⟨b,0,none⟩),.agg #[.int .i64 o,.int .i64 n,.string s]] w fun e w'=>e=.returned (.tuple #[])∧MaB b F (lO abvV M) w'∧aJ b w w':=by
 have hlt:=hM.lt
 have HB:=Hd hlt
 have HM:=Hd hM
 by_cases he:(bC 2 M).e=0
 ·obtain⟨en,el,ee⟩:=jK he
  obtain⟨l,x,y,hx⟩:=sA el
  obtain⟨st,a,e0⟩:=M
  dsimp only at hx ee
  subst hx ee
  have HMM:=Hd (uJ abvV l x y a)
  have HN:Hid (∀W,MaB b F ⟨l++[x]++[y],a,0⟩ W→Calls prog 239 #[.pointer (some ⟨b,0,none⟩),.int .i64 2] W fun e w'=>e=.returned (.bool true)∧MaB b F ⟨l++[x]++[y],a,0⟩ w'∧aJ b W w'):=Hd (fun W hW=>by have:=cU b F 2 _ W hW;rw[en] at this;exact this)
  obtain⟨xn,xp⟩:=x
  obtain⟨yn,yp⟩:=y
  have HT1:Hid (∀W,MaB b F ⟨l++[(xn,xp)]++[(yn,yp)],a,0⟩ W→Calls prog 240 #[.pointer (some ⟨b,0,none⟩)] W fun e w'=>e=.returned (.agg #[.int .i64 yn,.bool yp])∧MaB b F ⟨l++[(xn,xp)],a,0⟩ w'∧aJ b W w'):=Hd (fun W hW=>eQ b F _ (yn,yp) a 0 W hW)
  have HT2:Hid (∀W,MaB b F ⟨l++[(xn,xp)],a,0⟩ W→Calls prog 240 #[.pointer (some ⟨b,0,none⟩)] W fun e w'=>e=.returned (.agg #[.int .i64 xn,.bool xp])∧MaB b F ⟨l,a,0⟩ w'∧aJ b W w'):=Hd (fun W hW=>eQ b F _ (xn,xp) a 0 W hW)
  have HPU:Hid (∀W p q,MaB b F ⟨l,a,0⟩ W→Calls prog 241 #[.pointer (some ⟨b,0,none⟩),.agg #[.int .i64 p,.bool q]] W fun e w'=>e=.returned (.tuple #[])∧MaB b F (cX (p,q) ⟨l,a,0⟩) w'∧aJ b W w'):=Hd (fun W p q hW=>fY b F (p,q) _ W hW)
  clear he en el hM
  have HTR:=Hd (fun p W=>tD p W)
  have HAB:Hid (two1 abvV l (xn,xp) (yn,yp) a=cX (kA (xp&&(yp&&decide (yn<xn)))) ⟨l,a,0⟩):=Hd rfl
  unfold kL kA at HTR
  unfold kA at HAB
  by_cases hxy:yn<xn <;> rcases xp <;> rcases yp
  all_goals simp only[hxy,decide_true,decide_false,Bool.true_and,Bool.false_and,Bool.and_false,Bool.and_true,if_true,if_false,Bool.false_eq_true] at HAB
  all_goals
   go_enter func180,ntmps180
   go_wp2_with (first
    |(go_at_call 239;go_must (refine(HN.out _ (HM.out.below blw)).mono ?_;rintro e W1 ⟨rfl,hW1,hk1⟩;have HW1:=Hd hW1;have HK1:=Hd ((aJ.ofB HB.out blw).trans hk1);have HX1:=Hd (hk1.block (aN w _) (by have:=HB.out;omega) (by decide));clear hW1 hk1))
    |(go_at_call 240;go_must (first|(refine(HT2.out _ HW2.out).mono ?_;rintro e W3 ⟨rfl,hW3,hk3⟩;have HW3:=Hd hW3;have HK3:=Hd hk3;have hl3:=hW3.lt;clear hW3 hk3)|(refine(HT1.out _ HW1.out).mono ?_;rintro e W2 ⟨rfl,hW2,hk2⟩;have HW2:=Hd hW2;have HK2:=Hd hk2;have hl2:=hW2.lt;clear hW2 hk2)))
    |(go_at_call 242;go_must (refine rB W3 (HTR.out _ _) ?_;intro W4 HB4))
    |(go_at_call 241;go_must (refine(HPU.out _ _ _ (HW3.out.below blw)).mono ?_;rintro e W9 ⟨rfl,hW9,hk9⟩;have HW9:=Hd hW9;have HK9:=Hd ((aJ.ofB HW3.out.lt blw).trans hk9);clear hW9 hk9)))
   go_end0
   exact⟨rfl,by have e2:=HMM.out;(try simp only[List.append_assoc,List.cons_append,List.nil_append] at e2 ⊢);rw[e2,HAB.out];exact HW9.out,(HK1.out.trans (HK2.out.trans HK3.out)).trans HK9.out⟩
 ·have HMM:Hid (lO abvV M=bC 2 M):=Hd (if_neg he)
  have ze:((bC 2 M).e==0)=false:=bN he
  have HN:Hid (∀W,MaB b F M W→Calls prog 239 #[.pointer (some ⟨b,0,none⟩),.int .i64 2] W fun e w'=>e=.returned (.bool ((bC 2 M).e==0))∧MaB b F (bC 2 M) w'∧aJ b W w'):=Hd (fun W hW=>cU b F 2 M W hW)
  clear he hM
  go_enter func180,ntmps180
  go_wp2_with (first
   |(go_at_call 239;go_must (refine(HN.out _ (HM.out.below blw)).mono ?_;rintro e W1 ⟨rfl,hW1,hk1⟩;have HW1:=Hd hW1;have HK1:=Hd ((aJ.ofB HB.out blw).trans hk1);have HX1:=Hd (hk1.block (aN w _) (by have:=HB.out;omega) (by decide));clear hW1 hk1)))
  go_end0
  exact⟨rfl,by rw[HMM.out];exact HW1.out,HK1.out⟩
set_option linter.unusedSimpArgs false in
theorem aCt (b:Nat) (F:Value) (o n:Int) (s:ByteArray) (M:MS) (w:World) (hM:MaB b F M w):
 Calls prog 181 #[.pointer (some ⟨b,0,none⟩),.agg #[.int .i64 o,.int .i64 n,.string s]] w fun e w'=>e=.returned (.tuple #[])∧MaB b F (kR n M) w'∧aJ b w w':=by
 have hlt:=hM.lt
 have HB:=Hd hlt
 have HM:=Hd hM
 by_cases he:(bC 1 M).e=0
 ·obtain⟨en,el,ee⟩:=jK he
  obtain⟨l,x,hx⟩:=wT el
  obtain⟨st,a,e0⟩:=M
  dsimp only at hx ee
  subst hx ee
  have HMM:=Hd (yK n l x a)
  have HN:Hid (∀W,MaB b F ⟨l++[x],a,0⟩ W→Calls prog 239 #[.pointer (some ⟨b,0,none⟩),.int .i64 1] W fun e w'=>e=.returned (.bool true)∧MaB b F ⟨l++[x],a,0⟩ w'∧aJ b W w'):=Hd (fun W hW=>by have:=cU b F 1 _ W hW;rw[en] at this;exact this)
  obtain⟨xn,xp⟩:=x
  have HT:Hid (∀W,MaB b F ⟨l++[(xn,xp)],a,0⟩ W→Calls prog 240 #[.pointer (some ⟨b,0,none⟩)] W fun e w'=>e=.returned (.agg #[.int .i64 xn,.bool xp])∧MaB b F ⟨l,a,0⟩ w'∧aJ b W w'):=Hd (fun W hW=>eQ b F _ (xn,xp) a 0 W hW)
  clear he en el hM
  dsimp only at HMM
  by_cases hz:xn=0
  ·subst hz
   rw[if_pos rfl] at HMM
   go_enter func181,ntmps181
   go_wp2_with (first
    |(go_at_call 239;go_must (refine(HN.out _ (HM.out.below blw)).mono ?_;rintro e W1 ⟨rfl,hW1,hk1⟩;have HW1:=Hd hW1;have HK1:=Hd ((aJ.ofB HB.out blw).trans hk1);have HX1:=Hd (hk1.block (aN w _) (by have:=HB.out;omega) (by decide));clear hW1 hk1))
    |(go_at_call 240;go_must (refine(HT.out _ HW1.out).mono ?_;rintro e W2 ⟨rfl,hW2,hk2⟩;have HW2:=Hd hW2;have HK2:=Hd hk2;have hl2:=hW2.lt;have hx2:=hk2.block HX1.out (by have:=HB.out;omega) (by decide);have x1:W2.cell? ⟨w.heap.size,1,none⟩=some (.int .i64 n):=aA hx2 1;have kx2:w.heap.size<W2.heap.size:=(gLt hx2);have HX2:=Hd hx2;obtain⟨A2,c2,hm2,ho2⟩:=hW2;have m2:W2.cell? ⟨b,2,none⟩=some (.int .i64 a):=aA hm2 2;have g2:W2.frozen? ⟨b,2,none⟩=false:=fH hm2 2;clear hm2 ho2 hk2 hx2)))
   go_end0
   obtain⟨h5,k5⟩:=HW2.out.setAt n
   refine⟨rfl,by rw[HMM.out];exact h5.below (aB bR _),(HK1.out.trans HK2.out).trans (k5.alloc (Nat.le_of_lt h5.lt) _)⟩
  ·rw[if_neg hz] at HMM
   have zz:(xn==0)=false:=bN hz
   clear hz
   go_enter func181,ntmps181
   go_wp2_with (first
    |(go_at_call 239;go_must (refine(HN.out _ (HM.out.below blw)).mono ?_;rintro e W1 ⟨rfl,hW1,hk1⟩;have HW1:=Hd hW1;have HK1:=Hd ((aJ.ofB HB.out blw).trans hk1);have HX1:=Hd (hk1.block (aN w _) (by have:=HB.out;omega) (by decide));clear hW1 hk1))
    |(go_at_call 240;go_must (refine(HT.out _ HW1.out).mono ?_;rintro e W2 ⟨rfl,hW2,hk2⟩;have HW2:=Hd hW2;have HK2:=Hd hk2;have hl2:=hW2.lt;have hx2:=hk2.block HX1.out (by have:=HB.out;omega) (by decide);have x1:W2.cell? ⟨w.heap.size,1,none⟩=some (.int .i64 n):=aA hx2 1;have kx2:w.heap.size<W2.heap.size:=(gLt hx2);have HX2:=Hd hx2;obtain⟨A2,c2,hm2,ho2⟩:=hW2;have m2:W2.cell? ⟨b,2,none⟩=some (.int .i64 a):=aA hm2 2;have g2:W2.frozen? ⟨b,2,none⟩=false:=fH hm2 2;clear hm2 ho2 hk2 hx2)))
   go_end0
   exact⟨rfl,by rw[HMM.out];exact HW2.out.below (aB bR _),(HK1.out.trans HK2.out).trans ((aJ.refl _ _).alloc (Nat.le_of_lt HW2.out.lt) _)⟩
 ·have HMM:Hid (kR n M=bC 1 M):=Hd (if_neg he)
  have ze:((bC 1 M).e==0)=false:=bN he
  have HN:Hid (∀W,MaB b F M W→Calls prog 239 #[.pointer (some ⟨b,0,none⟩),.int .i64 1] W fun e w'=>e=.returned (.bool ((bC 1 M).e==0))∧MaB b F (bC 1 M) w'∧aJ b W w'):=Hd (fun W hW=>cU b F 1 M W hW)
  clear he hM
  go_enter func181,ntmps181
  go_wp2_with (first
   |(go_at_call 239;go_must (refine(HN.out _ (HM.out.below blw)).mono ?_;rintro e W1 ⟨rfl,hW1,hk1⟩;have HW1:=Hd hW1;have HK1:=Hd ((aJ.ofB HB.out blw).trans hk1);have HX1:=Hd (hk1.block (aN w _) (by have:=HB.out;omega) (by decide));clear hW1 hk1)))
  refine bodyPost_ret (results_none rfl _ _ _) rfl ?_
  exact⟨rfl,by rw[HMM.out];exact HW1.out,HK1.out⟩
set_option linter.unusedSimpArgs false in
theorem aHi (b:Nat) (F:Value) (o n:Int) (s:ByteArray) (M:MS) (w:World) (hM:MaB b F M w):
 Calls prog 178 #[.pointer (some ⟨b,0,none⟩),.agg #[.int .i64 o,.int .i64 n,.string s]] w fun e w'=>e=.returned (.tuple #[])∧MaB b F (nD n M) w'∧aJ b w w':=by
 have hlt:=hM.lt
 have HB:=Hd hlt
 have HM:=Hd hM
 by_cases he:(bC 1 M).e=0
 ·obtain⟨en,el,ee⟩:=jK he
  obtain⟨l,x,hx⟩:=wT el
  obtain⟨st,a,e0⟩:=M
  dsimp only at hx ee
  subst hx ee
  have HMM:=Hd (aDw n l x a)
  have HN:Hid (∀W,MaB b F ⟨l++[x],a,0⟩ W→Calls prog 239 #[.pointer (some ⟨b,0,none⟩),.int .i64 1] W fun e w'=>e=.returned (.bool true)∧MaB b F ⟨l++[x],a,0⟩ w'∧aJ b W w'):=Hd (fun W hW=>by have:=cU b F 1 _ W hW;rw[en] at this;exact this)
  obtain⟨xn,xp⟩:=x
  have HT:Hid (∀W,MaB b F ⟨l++[(xn,xp)],a,0⟩ W→Calls prog 240 #[.pointer (some ⟨b,0,none⟩)] W fun e w'=>e=.returned (.agg #[.int .i64 xn,.bool xp])∧MaB b F ⟨l,a,0⟩ w'∧aJ b W w'):=Hd (fun W hW=>eQ b F _ (xn,xp) a 0 W hW)
  clear he en el hM
  dsimp only at HMM
  rcases xp
  ·rw[if_neg (by simp)] at HMM
   go_enter func178,ntmps178
   go_wp2_with (first
    |(go_at_call 239;go_must (refine(HN.out _ (HM.out.below blw)).mono ?_;rintro e W1 ⟨rfl,hW1,hk1⟩;have HW1:=Hd hW1;have HK1:=Hd ((aJ.ofB HB.out blw).trans hk1);have HX1:=Hd (hk1.block (aN w _) (by have:=HB.out;omega) (by decide));clear hW1 hk1))
    |(go_at_call 240;go_must (refine(HT.out _ HW1.out).mono ?_;rintro e W2 ⟨rfl,hW2,hk2⟩;have HW2:=Hd hW2;have HK2:=Hd hk2;have hl2:=hW2.lt;have hx2:=hk2.block HX1.out (by have:=HB.out;omega) (by decide);have x1:W2.cell? ⟨w.heap.size,1,none⟩=some (.int .i64 n):=aA hx2 1;have kx2:w.heap.size<W2.heap.size:=(gLt hx2);have HX2:=Hd hx2;obtain⟨A2,c2,hm2,ho2⟩:=hW2;have m2:W2.cell? ⟨b,2,none⟩=some (.int .i64 a):=aA hm2 2;have g2:W2.frozen? ⟨b,2,none⟩=false:=fH hm2 2;clear hm2 ho2 hk2 hx2)))
   go_end0
   exact⟨rfl,by rw[HMM.out];exact HW2.out.below (aB bR _),(HK1.out.trans HK2.out).trans ((aJ.refl _ _).alloc (Nat.le_of_lt HW2.out.lt) _)⟩
  ·rw[if_pos rfl] at HMM
   have HPU:Hid (∀W,MaB b F ⟨l,a,0⟩ W→Calls prog 241 #[.pointer (some ⟨b,0,none⟩),.agg #[.int .i64 xn,.bool true]] W fun e w'=>e=.returned (.tuple #[])∧MaB b F (cX (xn,true) ⟨l,a,0⟩) w'∧aJ b W w'):=Hd (fun W hW=>fY b F (xn,true) _ W hW)
   generalize cX (xn,true) ⟨l,a,0⟩=R at HPU HMM
   go_enter func178,ntmps178
   go_wp2_with (first
    |(go_at_call 239;go_must (refine(HN.out _ (HM.out.below blw)).mono ?_;rintro e W1 ⟨rfl,hW1,hk1⟩;have HW1:=Hd hW1;have HK1:=Hd ((aJ.ofB HB.out blw).trans hk1);have HX1:=Hd (hk1.block (aN w _) (by have:=HB.out;omega) (by decide));clear hW1 hk1))
    |(go_at_call 240;go_must (refine(HT.out _ HW1.out).mono ?_;rintro e W2 ⟨rfl,hW2,hk2⟩;have HW2:=Hd hW2;have HK2:=Hd hk2;have hl2:=hW2.lt;have hx2:=hk2.block HX1.out (by have:=HB.out;omega) (by decide);have x1:W2.cell? ⟨w.heap.size,1,none⟩=some (.int .i64 n):=aA hx2 1;have kx2:w.heap.size<W2.heap.size:=(gLt hx2);have HX2:=Hd hx2;obtain⟨A2,c2,hm2,ho2⟩:=hW2;have m2:W2.cell? ⟨b,2,none⟩=some (.int .i64 a):=aA hm2 2;have g2:W2.frozen? ⟨b,2,none⟩=false:=fH hm2 2;clear hm2 ho2 hk2 hx2))
    |(go_at_call 241;go_must (refine(HPU.out _ (HW2.out.below (aB bR _))).mono ?_;rintro e W3 ⟨rfl,hW3,hk3⟩;have HW3:=Hd hW3;have HK3:=Hd (((aJ.refl _ _).alloc (Nat.le_of_lt HW2.out.lt) _).trans hk3);have hx3:=HK3.out.block HX2.out (by have:=HB.out;omega) (by decide);have y1:W3.cell? ⟨w.heap.size,1,none⟩=some (.int .i64 n):=aA hx3 1;obtain⟨A3,c3,hm3,ho3⟩:=hW3;have m3:W3.cell? ⟨b,2,none⟩=some (.int .i64 R.at_):=aA hm3 2;have g3:W3.frozen? ⟨b,2,none⟩=false:=fH hm3 2;clear hm3 ho3 hk3 hx3)))
   go_end0
   obtain⟨h5,k5⟩:=HW3.out.setAt n
   exact⟨rfl,by rw[HMM.out];exact h5,(HK1.out.trans HK2.out).trans (HK3.out.trans k5)⟩
 ·have HMM:Hid (nD n M=bC 1 M):=Hd (if_neg he)
  have ze:((bC 1 M).e==0)=false:=bN he
  have HN:Hid (∀W,MaB b F M W→Calls prog 239 #[.pointer (some ⟨b,0,none⟩),.int .i64 1] W fun e w'=>e=.returned (.bool ((bC 1 M).e==0))∧MaB b F (bC 1 M) w'∧aJ b W w'):=Hd (fun W hW=>cU b F 1 M W hW)
  clear he hM
  go_enter func178,ntmps178
  go_wp2_with (first
   |(go_at_call 239;go_must (refine(HN.out _ (HM.out.below blw)).mono ?_;rintro e W1 ⟨rfl,hW1,hk1⟩;have HW1:=Hd hW1;have HK1:=Hd ((aJ.ofB HB.out blw).trans hk1);have HX1:=Hd (hk1.block (aN w _) (by have:=HB.out;omega) (by decide));clear hW1 hk1)))
  refine bodyPost_ret (results_none rfl _ _ _) rfl ?_
  exact⟨rfl,by rw[HMM.out];exact HW1.out,HK1.out⟩
set_option linter.unusedSimpArgs false in
theorem aMp (b:Nat) (F:Value) (o n:Int) (s:ByteArray) (M:MS) (w:World) (hM:MaB b F M w):
 Calls prog 182 #[.pointer (some ⟨b,0,none⟩),.agg #[.int .i64 o,.int .i64 n,.string s]] w fun e w'=>e=.returned (.tuple #[])∧MaB b F ((fun M=>(⟨M.st,n,M.e⟩:MS)) M) w'∧aJ b w w':=by
 have hlt:=hM.lt
 have HM:=Hd hM
 obtain⟨A2,c2,hm2,ho2⟩:=hM
 have m2:w.cell? ⟨b,2,none⟩=some (.int .i64 M.at_):=aA hm2 2
 have g2:w.frozen? ⟨b,2,none⟩=false:=fH hm2 2
 clear hm2 ho2
 go_enter func182,ntmps182
 go_wp2_with fail
 go_end0
 obtain⟨h5,k5⟩:=HM.out.setAt n
 exact⟨rfl,h5.below (aB bR _),k5.alloc (Nat.le_of_lt h5.lt) _⟩
theorem aLy (b:Nat) (A:Option Addr) (c m:Nat) (o n:Int) (s:ByteArray) (M:MS) (w:World) (hM:MaB b (.slice A m c) M w):
 Calls prog 179 #[.pointer (some ⟨b,0,none⟩),.agg #[.int .i64 o,.int .i64 n,.string s]] w fun e w'=>e=.returned (.tuple #[])∧MaB b (.slice A m c) (cX (kA (decide (n<(m:Int)))) M) w'∧aJ b w w':=by
 have hlt:=hM.lt
 have HB:=Hd hlt
 have HTR:Hid (∀W,Calls prog 242 #[.bool (decide (n<(m:Int)))] W (Ret (kL (kA (decide (n<(m:Int))))) W)):=Hd (fun W=>tD _ W)
 generalize kA (decide (n<(m:Int)))=r at HTR ⊢
 obtain⟨r1,r2⟩:=r
 have HPU:Hid (∀W,Below w.heap.size w W→Calls prog 241 #[.pointer (some ⟨b,0,none⟩),.agg #[.int .i64 r1,.bool r2]] W fun e w'=>e=.returned (.tuple #[])∧MaB b (.slice A m c) (cX (r1,r2) M) w'∧aJ b W w'):=Hd (fun W hW=>fY b _ (r1,r2) M W (hM.below hW))
 obtain⟨A2,c2,hk2,ho2⟩:=hM
 have d0:w.cell? ⟨b,0,none⟩=some (.slice A m c):=aA hk2 0
 unfold kL at HTR
 clear hk2 ho2
 go_enter func179,ntmps179
 go_wp2_with fail
 go_region_with (first
  |(go_at_call 242;go_must (refine rB w (HTR.out _) ?_;intro wq1 Bq1))
  |(go_at_call 241;go_must (refine(HPU.out _ blw).mono ?_;rintro e W2 ⟨rfl,hW2,hk2⟩;have HW2:=Hd hW2;have HK2:=Hd ((aJ.ofB HB.out blw).trans hk2);clear hW2 hk2)))
 all_goals go_wp2_with fail
 all_goals go_end0
 all_goals exact⟨rfl,HW2.out,HK2.out⟩
abbrev aU (b f:Nat):Value:=.func (.func f) #[.pointer (some ⟨b,0,none⟩)] #[]
def qB (b:Nat):Array MapEntry:=#[⟨.int .i64 1,aU b 170,0⟩,⟨.int .i64 2,aU b 171,1⟩,⟨.int .i64 3,aU b 172,2⟩,⟨.int .i64 4,aU b 173,3⟩,⟨.int .i64 5,aU b 174,4⟩,⟨.int .i64 6,aU b 175,5⟩,⟨.int .i64 7,aU b 176,6⟩,⟨.int .i64 8,aU b 177,7⟩,⟨.int .i64 9,aU b 178,8⟩,⟨.int .i64 10,aU b 179,9⟩,⟨.int .i64 11,aU b 180,10⟩,⟨.int .i64 12,aU b 181,11⟩,⟨.int .i64 13,aU b 182,12⟩]
def uZ (o:Int):Nat:=169+o.toNat
theorem aFn (b:Nat) (w:World):Calls prog 100 #[.pointer (some ⟨b,0,none⟩)] w fun e w'=>e=.returned (.map (some w.heap.size))∧w'=w.alloc (.map (qB b) 13):=by
 have hmf:∀(fn:Fn) (first cap:Array Value) (w:World),(Instr.makeFunc fn first cap).run prog w=.ok (.func fn first cap) w:=fun _ _ _ _=>rfl
 have hmk:∀W,(Instr.makeMap 203 none).run prog W=.ok (.map (some W.heap.size)) (W.alloc (.map #[] 0)):=fun W=>by kernel_rfl
 have h0:=bD underlying203 underlying3 w #[] 0 1 (aU b 170) (by simp)
 have h1:=bD underlying203 underlying3 w #[⟨.int .i64 1,aU b 170,0⟩] 1 2 (aU b 171) (by simp)
 have h2:=bD underlying203 underlying3 w #[⟨.int .i64 1,aU b 170,0⟩,⟨.int .i64 2,aU b 171,1⟩] 2 3 (aU b 172) (by simp)
 have h3:=bD underlying203 underlying3 w #[⟨.int .i64 1,aU b 170,0⟩,⟨.int .i64 2,aU b 171,1⟩,⟨.int .i64 3,aU b 172,2⟩] 3 4 (aU b 173) (by simp)
 have h4:=bD underlying203 underlying3 w #[⟨.int .i64 1,aU b 170,0⟩,⟨.int .i64 2,aU b 171,1⟩,⟨.int .i64 3,aU b 172,2⟩,⟨.int .i64 4,aU b 173,3⟩] 4 5 (aU b 174) (by simp)
 have h5:=bD underlying203 underlying3 w #[⟨.int .i64 1,aU b 170,0⟩,⟨.int .i64 2,aU b 171,1⟩,⟨.int .i64 3,aU b 172,2⟩,⟨.int .i64 4,aU b 173,3⟩,⟨.int .i64 5,aU b 174,4⟩] 5 6 (aU b 175) (by simp)
 have h6:=bD underlying203 underlying3 w #[⟨.int .i64 1,aU b 170,0⟩,⟨.int .i64 2,aU b 171,1⟩,⟨.int .i64 3,aU b 172,2⟩,⟨.int .i64 4,aU b 173,3⟩,⟨.int .i64 5,aU b 174,4⟩,⟨.int .i64 6,aU b 175,5⟩] 6 7 (aU b 176) (by simp)
 have h7:=bD underlying203 underlying3 w #[⟨.int .i64 1,aU b 170,0⟩,⟨.int .i64 2,aU b 171,1⟩,⟨.int .i64 3,aU b 172,2⟩,⟨.int .i64 4,aU b 173,3⟩,⟨.int .i64 5,aU b 174,4⟩,⟨.int .i64 6,aU b 175,5⟩,⟨.int .i64 7,aU b 176,6⟩] 7 8 (aU b 177) (by simp)
 have h8:=bD underlying203 underlying3 w #[⟨.int .i64 1,aU b 170,0⟩,⟨.int .i64 2,aU b 171,1⟩,⟨.int .i64 3,aU b 172,2⟩,⟨.int .i64 4,aU b 173,3⟩,⟨.int .i64 5,aU b 174,4⟩,⟨.int .i64 6,aU b 175,5⟩,⟨.int .i64 7,aU b 176,6⟩,⟨.int .i64 8,aU b 177,7⟩] 8 9 (aU b 178) (by simp)
 have h9:=bD underlying203 underlying3 w #[⟨.int .i64 1,aU b 170,0⟩,⟨.int .i64 2,aU b 171,1⟩,⟨.int .i64 3,aU b 172,2⟩,⟨.int .i64 4,aU b 173,3⟩,⟨.int .i64 5,aU b 174,4⟩,⟨.int .i64 6,aU b 175,5⟩,⟨.int .i64 7,aU b 176,6⟩,⟨.int .i64 8,aU b 177,7⟩,⟨.int .i64 9,aU b 178,8⟩] 9 10 (aU b 179) (by simp)
 have h10:=bD underlying203 underlying3 w #[⟨.int .i64 1,aU b 170,0⟩,⟨.int .i64 2,aU b 171,1⟩,⟨.int .i64 3,aU b 172,2⟩,⟨.int .i64 4,aU b 173,3⟩,⟨.int .i64 5,aU b 174,4⟩,⟨.int .i64 6,aU b 175,5⟩,⟨.int .i64 7,aU b 176,6⟩,⟨.int .i64 8,aU b 177,7⟩,⟨.int .i64 9,aU b 178,8⟩,⟨.int .i64 10,aU b 179,9⟩] 10 11 (aU b 180) (by simp)
 have h11:=bD underlying203 underlying3 w #[⟨.int .i64 1,aU b 170,0⟩,⟨.int .i64 2,aU b 171,1⟩,⟨.int .i64 3,aU b 172,2⟩,⟨.int .i64 4,aU b 173,3⟩,⟨.int .i64 5,aU b 174,4⟩,⟨.int .i64 6,aU b 175,5⟩,⟨.int .i64 7,aU b 176,6⟩,⟨.int .i64 8,aU b 177,7⟩,⟨.int .i64 9,aU b 178,8⟩,⟨.int .i64 10,aU b 179,9⟩,⟨.int .i64 11,aU b 180,10⟩] 11 12 (aU b 181) (by simp)
 have h12:=bD underlying203 underlying3 w #[⟨.int .i64 1,aU b 170,0⟩,⟨.int .i64 2,aU b 171,1⟩,⟨.int .i64 3,aU b 172,2⟩,⟨.int .i64 4,aU b 173,3⟩,⟨.int .i64 5,aU b 174,4⟩,⟨.int .i64 6,aU b 175,5⟩,⟨.int .i64 7,aU b 176,6⟩,⟨.int .i64 8,aU b 177,7⟩,⟨.int .i64 9,aU b 178,8⟩,⟨.int .i64 10,aU b 179,9⟩,⟨.int .i64 11,aU b 180,10⟩,⟨.int .i64 12,aU b 181,11⟩] 12 13 (aU b 182) (by simp)
 go_enter func100,ntmps100
 go_wp2
 go_ret
 exact⟨rfl,rfl⟩
theorem aHr (b:Nat) (o:Int) (h1:1≤o) (h2:o≤13) (q:Nat) (W:World) (hq:W.heap[q]?=some (.map (qB b) 13)):
 (Instr.lookup 203 (.map (some q)) (.int .i64 o) false).run prog W=.ok (aU b (uZ o)) W:=by
 have h:=nY (w:=W) (P:=prog) underlying203 underlying3 hq o (aU b (uZ o))
 obtain rfl|rfl|rfl|rfl|rfl|rfl|rfl|rfl|rfl|rfl|rfl|rfl|rfl:o=1∨o=2∨o=3∨o=4∨o=5∨o=6∨o=7∨o=8∨o=9∨o=10∨o=11∨o=12∨o=13:=by omega
 all_goals exact h (by simp[qB,uZ]) (by simp[qB]) false
def opM (E:Int→Int→ByteArray→Int×Bool) (N:Int) (x:Ins) (M:MS):MS:=
 if x.o=1 then cX (E 4 x.n x.s) M else if x.o=2 then cX (E 1 x.n x.s) M else if x.o=3 then cX (E 2 x.n x.s) M else if x.o=4 then cX (E 3 x.n x.s) M
 else if x.o=5 then eT (fun _=>(x.n,0)) M else if x.o=6 then eT (fun v=>lJ v x.n) M
 else if x.o=7 then lO (mW fun p q=>min p q) M else if x.o=8 then lO (mW fun p q=>max p q) M
 else if x.o=9 then nD x.n M else if x.o=10 then cX (kA (decide (x.n<N))) M else if x.o=11 then lO abvV M
 else if x.o=12 then kR x.n M else⟨M.st,x.n,M.e⟩
theorem aLw (b:Nat) (L:List aW) (hL:iY L) (A:Option Addr) (c m:Nat) (hm:L.length=m) (a len:Nat) (x:Ins) (hx:fQ a len x) (M:MS) (w:World) (G:Gl w) (h:dF.At w A c L) (hM:MaB b (.slice A m c) M w):
 Calls prog (uZ x.o) #[.pointer (some ⟨b,0,none⟩),.agg #[.int .i64 x.o,.int .i64 x.n,.string x.s]] w fun e w'=>e=.returned (.tuple #[])∧MaB b (.slice A m c) (opM (fun k n s=>cC k n s L) m x M) w'∧aJ b w w':=by
 cases hx with
 |push n h1=>exact aLl b 1 n ⟨#[]⟩ (aPq n h1) L hL A c m hm M w G h hM
 |low=>exact aD6 b 2 0 ⟨#[]⟩ aPt L hL A c m hm M w G h hM
 |sec=>exact aDa b 3 0 ⟨#[]⟩ aPs L hL A c m hm M w G h hM
 |frm k h1=>exact aM6 b 4 0 (aK k) (aPr k h1) L hL A c m hm M w G h hM
 |less n h1=>exact aD8 b _ 5 n ⟨#[]⟩ M w hM
 |cut n h1=>exact aJp b _ 6 n ⟨#[]⟩ M w hM
 |mn=>exact aD7 b _ 7 0 ⟨#[]⟩ M w hM
 |mx=>exact zZ b _ 8 0 ⟨#[]⟩ M w hM
 |more n h1=>exact aLy b A c m 10 n ⟨#[]⟩ M w hM
 |abv=>exact aKn b _ 11 0 ⟨#[]⟩ M w hM
 |jmp o ho n h1 h2=>
  rcases ho with rfl|rfl|rfl
  ·exact aHi b _ 9 n ⟨#[]⟩ M w hM
  ·exact aCt b _ 12 n ⟨#[]⟩ M w hM
  ·exact aMp b _ 13 n ⟨#[]⟩ M w hM
theorem kY (x:Int×Bool) (M:MS):(cX x M).at_=M.at_:=by unfold cX;split <;> rfl
theorem oD (k:Nat) (M:MS):(bC k M).at_=M.at_:=by unfold bC;split <;> rfl
theorem aD4 (f:Int→Int×Int) (l:List (Int×Bool)) (x:Int×Bool) (a:Int):(fU f l x a).at_=a:=by unfold fU;(repeat' split) <;> rw[kY]
theorem tO (f:Int→Int×Int) (M:MS):(eT f M).at_=M.at_:=by unfold eT;split;exact aD4 _ _ _ _;exact oD _ _
theorem uK (f:(Int×Bool)→(Int×Bool)→Int×Bool) (M:MS):(lO f M).at_=M.at_:=by unfold lO;split;exact kY _ _;exact oD _ _
theorem aO9 (E:Int→Int→ByteArray→Int×Bool) (N:Int) {a len:Nat} {x:Ins} (hx:fQ a len x) (ha:a+1≤len) (M:MS) (hM:M.at_=a+1):∃k:Nat,(opM E N x M).at_=k∧a+1≤k∧k≤len:=by
 cases hx with
 |push n h1=>exact⟨a+1,by show(cX _ M).at_=_;rw[kY,hM];rfl,nR,ha⟩
 |low=>exact⟨a+1,by show(cX _ M).at_=_;rw[kY,hM];rfl,nR,ha⟩
 |sec=>exact⟨a+1,by show(cX _ M).at_=_;rw[kY,hM];rfl,nR,ha⟩
 |frm k h1=>exact⟨a+1,by show(cX _ M).at_=_;rw[kY,hM];rfl,nR,ha⟩
 |less n h1=>exact⟨a+1,by show(eT _ M).at_=_;rw[tO,hM];rfl,nR,ha⟩
 |cut n h1=>exact⟨a+1,by show(eT _ M).at_=_;rw[tO,hM];rfl,nR,ha⟩
 |mn=>exact⟨a+1,by show(lO _ M).at_=_;rw[uK,hM];rfl,nR,ha⟩
 |mx=>exact⟨a+1,by show(lO _ M).at_=_;rw[uK,hM];rfl,nR,ha⟩
 |more n h1=>exact⟨a+1,by show(cX _ M).at_=_;rw[kY,hM];rfl,nR,ha⟩
 |abv=>exact⟨a+1,by show(lO _ M).at_=_;rw[uK,hM];rfl,nR,ha⟩
 |jmp o ho n h1 h2=>
  rcases ho with rfl|rfl|rfl
  ·show ∃k:Nat,(nD n M).at_=k∧_
   unfold nD
   split
   ·split
    ·exact⟨n,rfl,h1,h2⟩
    ·exact⟨a+1,hM,nR,ha⟩
   ·exact⟨a+1,by rw[oD,hM];rfl,nR,ha⟩
  ·show ∃k:Nat,(kR n M).at_=k∧_
   unfold kR
   split
   ·by_cases hz:(sT M).1=0
    ·exact⟨n,if_pos hz,h1,h2⟩
    ·exact⟨a+1,by show(if(sT M).1=0 then(n:Int) else M.at_)=_;rw[if_neg hz,hM];rfl,nR,ha⟩
   ·exact⟨a+1,by rw[oD,hM];rfl,nR,ha⟩
  ·exact⟨n,rfl,h1,h2⟩
def jB (E:Int→Int→ByteArray→Int×Bool) (N:Int) (l:List Ins):Nat→MS→MS
 |0,M=>M
 |k+1,M=>if M.e=0 then(match l[M.at_.toNat]? with|none=>M|some x=>jB E N l k (opM E N x ⟨M.st,M.at_+1,M.e⟩)) else M
theorem zE (E:Int→Int→ByteArray→Int×Bool) (N:Int) (l:List Ins) (k:Nat) (st:List (Int×Bool)) (a:Nat) (x:Ins) (hx:l[a]?=some x):jB E N l (k+1) ⟨st,a,0⟩=jB E N l k (opM E N x ⟨st,a+1,0⟩):=by
 rw[jB,if_pos rfl]
 simp only[Int.toNat_natCast,hx]
theorem aDp (E:Int→Int→ByteArray→Int×Bool) (N:Int) (l:List Ins) (k:Nat) (M:MS) (h:M.e≠0):jB E N l k M=M:=by
 cases k with
 |zero=>rfl
 |succ k=>rw[jB,if_neg h]
theorem aDq (E:Int→Int→ByteArray→Int×Bool) (N:Int) (l:List Ins) (k:Nat) (M:MS) (h:l.length≤M.at_.toNat):jB E N l k M=M:=by
 cases k with
 |zero=>rfl
 |succ k=>rw[jB,List.getElem?_eq_none h];split <;> rfl
def uN (E:Int→Int→ByteArray→Int×Bool) (N:Int) (l:List Ins):Int×Bool×Int:=
 let R:=jB E N l l.length ⟨[],0,0⟩
 let e:=if R.e=0∧R.st.length≠1 then 100 else R.e
 if e=0 then((R.st[0]?.getD (0,false)).1,(R.st[0]?.getD (0,false)).2,0) else(0,false,e)
def oY (R:MS):Int:=if R.e=0∧R.st.length≠1 then 100 else R.e
theorem aHf {b:Nat} {W:World} {A:Option Addr} {c:Nat} {F x y:Value} {st:List (Int×Bool)} (h1:W.heap[b]?=some (.cells #[F,.slice A st.length c,x,y] 202 (0,0))) (h2:dS.Own 106 W b A c st) (v:Value):dS.Own 106 (W.setCell ⟨b,3,none⟩ v) b A c st:=
 h2.kept (row:=some b) ⟨rfl,rfl,rfl,by simp[World.setCell],fun k _ hk=>Below.heap_setCell _ _ _ _ (fun e=>hk (by simp[e]))⟩ (.inr (fS h2 h1 (by decide)))
theorem aJ1 (o:Int) (h1:1≤o) (h2:o≤13) (args:Array Value) (W:World):(callFunc (uZ o) args).run prog W=.ok (.enter (uZ o) args) W:=by
 obtain rfl|rfl|rfl|rfl|rfl|rfl|rfl|rfl|rfl|rfl|rfl|rfl|rfl:o=1∨o=2∨o=3∨o=4∨o=5∨o=6∨o=7∨o=8∨o=9∨o=10∨o=11∨o=12∨o=13:=by omega
 all_goals kernel_rfl
theorem aG0 (l:List Ins) (hl:l.length≤5000) (hok:dE 0 l.length l) (CA:Option Addr) (cc cl:Nat) (hcl:l.length=cl) (L:List aW) (hL:iY L) (A:Option Addr) (c m:Nat) (hm:L.length=m) (w:World) (G:Gl w) (hc:dI.At w CA cc l) (ho:dF.At w A c L) (R:MS) (hR:jB (fun k n s=>cC k n s L) m l l.length ⟨[],0,0⟩=R):
 Calls prog 47 #[.slice CA cl cc,.slice A m c] w fun e w'=>∃(SA:Option Addr) (sc:Nat) (s:Int),e=.returned (.tuple #[.slice SA R.st.length sc,.int .i64 (oY R),.int .i64 s])∧dS.At w' SA sc R.st∧Below w.heap.size w w':=by
 have HRC:Hid (∀W,Below w.heap.size w W→Calls prog 99 #[.slice CA cl cc] W (Ret (.bool true) W)):=Hd (fun W hW=>zA l hl hok CA cc cl hcl W (hc.below hW))
 have HRO:Hid (∀W,Below w.heap.size w W→Calls prog 98 #[.slice A m c] W (Ret (.bool true) W)):=Hd (fun W hW=>tK L hL A c m hm W (ho.below hW))
 have HWY:=Hd (fun b W=>aFn b W)
 have HOK:=Hd hok
 have HR:=Hd hR
 have HCL:=Hd hcl
 have HLE:Hid (cl≤5000):=Hd (by omega)
 have HCA:=Hd hc
 have HOP:Hid (∀b a x M W,fQ a l.length x→Below w.heap.size w W→MaB b (.slice A m c) M W→Calls prog (uZ x.o) #[.pointer (some ⟨b,0,none⟩),.agg #[.int .i64 x.o,.int .i64 x.n,.string x.s]] W fun e w'=>e=.returned (.tuple #[])∧MaB b (.slice A m c) (opM (fun k n s=>cC k n s L) m x M) w'∧aJ b W w'):=Hd (fun b a x M W hx hW hM=>aLw b L hL A c m hm a l.length x hx M W (G.below hW) (ho.below hW) hM)
 generalize hE:(fun k n s=>cC k n s L)=E at HOP HR
 clear hE hl hok hcl hL hm G hc ho hR
 go_enter func47,ntmps47
 go_wp2_with (first
  |(go_at_call 98;go_must (refine rB w (HRO.out _ blw) ?_;intro W1 HB1))
  |(go_at_call 99;go_must (refine rB w (HRC.out _ blw) ?_;intro W2 HB2))
  |(go_at_call 100;go_must (refine(HWY.out _ _).mono ?_;rintro e W3 ⟨rfl,rfl⟩)))
 have HM3:Hid (MaB W2.heap.size (.slice A m c) ⟨[],0,0⟩ ((W2.alloc (.cells #[.slice A m c,.slice none 0 0,.int .i64 0,.int .i64 0] 202)).alloc (.map (qB W2.heap.size) 13))):=Hd ((show MaB W2.heap.size (.slice A m c) ⟨[],0,0⟩ (W2.alloc (.cells #[.slice A m c,.slice none 0 0,.int .i64 0,.int .i64 0] 202)) from⟨none,0,aN W2 _,En.Own.none_ _ _ _⟩).below (aB bR _))
 have HQ3:Hid (((W2.alloc (.cells #[.slice A m c,.slice none 0 0,.int .i64 0,.int .i64 0] 202)).alloc (.map (qB W2.heap.size) 13)).heap[W2.heap.size+1]?=some (.map (qB W2.heap.size) 13)):=Hd (by
  have:=aN (W2.alloc (.cells #[.slice A m c,.slice none 0 0,.int .i64 0,.int .i64 0] 202)) (.map (qB W2.heap.size) 13)
  rw[sz1] at this
  exact this)
 have HB3:Hid (Below w.heap.size w ((W2.alloc (.cells #[.slice A m c,.slice none 0 0,.int .i64 0,.int .i64 0] 202)).alloc (.map (qB W2.heap.size) 13))):=Hd blw
 have HWB:Hid (w.heap.size≤W2.heap.size):=Hd HB2.out.size
 generalize W2.heap.size=b at *
 go_loopw [9] (fun iv wr=>∃(s a k:Nat) (st:List (Int×Bool)) (e0:Int),iv=.int .i64 s∧s≤a∧a≤cl∧Hid (MaB b (.slice A m c) ⟨st,a,e0⟩ wr)∧Hid (Below w.heap.size w wr)∧Hid (wr.heap[b+1]?=some (.map (qB b) 13))∧Hid (jB E m l k ⟨st,a,e0⟩=R)∧Hid (cl≤a+k)) (fun iv _=>cl-(intOf iv).toNat)
 case atStart=>exact⟨0,0,l.length,[],0,rfl,nR,Nat.zero_le _,HM3,HB3,HQ3,HR,Hd (by have:=HCL.out;omega)⟩
 case round=>
  obtain⟨s,a,k,st,e0,rfl,hsa,hac,HM,HB,HQ,HPL,HK⟩:=hrel
  have hbl:=HM.out.lt
  obtain⟨A2,c2,hm2,ho2⟩:=HM.out
  have m1:wr.cell? ⟨b,1,none⟩=some (.slice A2 st.length c2):=aA hm2 1
  have m2:wr.cell? ⟨b,2,none⟩=some (.int .i64 a):=aA hm2 2
  have m3:wr.cell? ⟨b,3,none⟩=some (.int .i64 e0):=aA hm2 3
  have g2:wr.frozen? ⟨b,2,none⟩=false:=fH hm2 2
  have g3:wr.frozen? ⟨b,3,none⟩=false:=fH hm2 3
  have HO2:=Hd ho2
  by_cases hlt:a<cl∧e0=0
  ·obtain⟨hlt,rfl⟩:=hlt
   have hx:l[a]?=some (l[a]'(by have:=HCL.out;omega)):=gE _
   obtain⟨bb,off,rfl,hbb,x0,x1,x2⟩:=qS (HCA.out.below HB.out) a _ hx
   have hok:=HOK.out a _ hx
   generalize l[a]'(by have:=HCL.out;omega)=x at hx x0 x1 x2 hok
   rw[Nat.zero_add] at hok
   obtain⟨f1,f2,_⟩:=pX hok
   obtain⟨k,rfl⟩:∃k',k=k'+1:=⟨k-1,by have:=HK.out;omega⟩
   have hpl:jB E m l k (opM E m x ⟨st,a+1,0⟩)=R:=by rw[←zE E m l k st a x hx];exact HPL.out
   obtain⟨a',ha',hp1,hp2⟩:=aO9 E m hok (by have:=HCL.out;omega) ⟨st,(a:Int)+1,0⟩ rfl
   have zlt:(a:Int)<(cl:Int):=by omega
   have HZ:Hid (wrap64 ((a:Int)+1)=(a:Int)+1):=Hd (Mem.w64 (by omega) (by have:=HLE.out;omega))
   have HZS:Hid (wrap64 ((s:Int)+1)=((s+1:Nat):Int)):=Hd (by rw[Mem.w64 (by omega) (by have:=HLE.out;omega)];omega)
   have HX:Hid (∀W v,W=(wr.setCell ⟨b,2,none⟩ (.int .i64 v)).alloc (.cells #[.int .i64 x.o,.int .i64 x.n,.string x.s] 197)→W.heap[b+1]?=some (.map (qB b) 13)∧Below w.heap.size w W∧MaB b (.slice A m c) ⟨st,v,0⟩ W∧aJ b wr W):=Hd (by
    rintro W v rfl
    obtain⟨h5,k5⟩:=HM.out.setAt v
    have k6:=k5.alloc (Nat.le_of_lt h5.lt) (.cells #[.int .i64 x.o,.int .i64 x.n,.string x.s] 197)
    exact⟨k6.map HQ.out (by omega),HB.out.trans (aP k6.below HWB.out),h5.below (aB bR _),k6⟩)
   have hlk:(Instr.lookup 203 (.map (some (b+1))) (.int .i64 x.o) false).run prog ((wr.setCell ⟨b,2,none⟩ (.int .i64 (wrap64 ((a:Int)+1)))).alloc (.cells #[.int .i64 x.o,.int .i64 x.n,.string x.s] 197))=.ok (aU b (uZ x.o)) _:=aHr b x.o f1 f2 _ _ (HX.out _ _ rfl).1
   have hcf:=aJ1 x.o f1 f2
   have HCO:=Hd (HOP.out b a x ⟨st,wrap64 ((a:Int)+1),0⟩ _ hok (HX.out _ _ rfl).2.1 (HX.out _ _ rfl).2.2.1)
   have HKX:=Hd (HX.out _ (wrap64 ((a:Int)+1)) rfl).2.2.2
   have HQX:=Hd (HX.out _ (wrap64 ((a:Int)+1)) rfl).1
   have HBX:=Hd (HX.out _ (wrap64 ((a:Int)+1)) rfl).2.1
   have HPN:=Hd hpl
   have HAA:=Hd ha'
   have HAB:Hid (a+1≤a'∧a'≤cl):=Hd ⟨hp1,by have:=HCL.out;omega⟩
   clear HX hx hok f1 f2 hpl ha' hp1 hp2 hm2 ho2
   generalize uZ x.o=fid at hlk hcf HCO
   obtain⟨xo,xn,xs⟩:=x
   dsimp only at *
   go_wp2_with fail
   refine HCO.out.mono ?_
   rintro e W5 ⟨rfl,hW5,hk5⟩
   have HM5:Hid (MaB b (.slice A m c) ⟨(opM E m ⟨xo,xn,xs⟩ ⟨st,(a:Int)+1,0⟩).st,a',(opM E m ⟨xo,xn,xs⟩ ⟨st,(a:Int)+1,0⟩).e⟩ W5):=Hd (by
    rw[HZ.out] at hW5
    rw[←HAA.out]
    exact hW5)
   have HPM:Hid (jB E m l k ⟨(opM E m ⟨xo,xn,xs⟩ ⟨st,(a:Int)+1,0⟩).st,a',(opM E m ⟨xo,xn,xs⟩ ⟨st,(a:Int)+1,0⟩).e⟩=R):=Hd (by
    rw[←HAA.out]
    exact HPN.out)
   have HQ5:Hid (W5.heap[b+1]?=some (.map (qB b) 13)):=Hd (hk5.map HQX.out (by omega))
   have HB5:Hid (Below w.heap.size w W5):=Hd (HBX.out.trans (aP hk5.below HWB.out))
   clear hW5 hk5
   generalize (opM E m ⟨xo,xn,xs⟩ ⟨st,(a:Int)+1,0⟩).st=st' at HM5 HPM
   generalize (opM E m ⟨xo,xn,xs⟩ ⟨st,(a:Int)+1,0⟩).e=e' at HM5 HPM
   go_wp2_with fail
   go_roundw
   case rel=>exact⟨s+1,a',k,st',e',(by rw[HZS.out]),(by have:=HAB.out.1;omega),HAB.out.2,HM5,HB5,HQ5,HPM,Hd (by have:=HK.out;have:=HAB.out.1;omega)⟩
   case measure=>rw[HZS.out];simp[intOf];omega
  ·have hR:(⟨st,a,e0⟩:MS)=R:=by
    rw[←HPL.out]
    by_cases he:e0=0
    ·exact(aDq E m l k _ (by show l.length≤((a:Int)).toNat;have:=HCL.out;rw[Int.toNat_natCast];have h:=fun h=>hlt ⟨h,he⟩;omega)).symm
    ·exact(aDp E m l k _ he).symm
   subst hR
   have HH:=Hd hm2
   clear hm2 ho2 HPL
   by_cases he:e0=0
   ·subst he
    have zlt:¬(a:Int)<(cl:Int):=by have h:=fun h=>hlt ⟨h,rfl⟩;omega
    clear hlt
    by_cases h1:st.length=1
    ·have HE:Hid (oY ⟨st,a,0⟩=0):=Hd (if_neg (by rintro⟨_,h⟩;exact h h1))
     have HN:=Hd h1
     rw[h1] at m1
     clear h1
     go_wp2_with fail
     go_region
     all_goals go_wp2
     all_goals refine bodyPost_ret (v:=.tuple #[.slice A2 1 c2,.int .i64 0,.int .i64 s]) (by simp[results,results47,go_sem, *]) rfl ?_
     all_goals exact⟨A2,c2,⟨(s:Int),by rw[HE.out,HN.out]⟩,HO2.out.at_.drewN _,blw⟩
    ·have HE:Hid (oY ⟨st,a,0⟩=100):=Hd (if_pos ⟨rfl,h1⟩)
     have HHX:=Hd (aHf HH.out HO2.out (.int .i64 100))
     generalize hn:st.length=n at m1 h1
     have zn:((n:Int) !=1)=true:=by simp;omega
     have zn2:((n:Int)==1)=false:=by simp;omega
     have zn3:¬(n:Int)=1:=by omega
     have HN:=Hd hn
     clear hn h1
     go_wp2_with fail
     go_region
     all_goals go_wp2
     all_goals refine bodyPost_ret (v:=.tuple #[.slice A2 n c2,.int .i64 100,.int .i64 s]) (by simp[results,results47,go_sem, *]) rfl ?_
     all_goals have hwb:=HWB.out
     all_goals exact⟨A2,c2,⟨(s:Int),by rw[HE.out,HN.out]⟩,HHX.out.at_.drewN _,blw⟩
   ·have ze:(e0==0)=false:=bN he
    have HE:Hid (oY ⟨st,a,e0⟩=e0):=Hd (if_neg (by rintro⟨h,_⟩;exact he h))
    generalize hn:st.length=n at m1
    have HN:=Hd hn
    clear he hlt hn
    by_cases zlt:(a:Int)<(cl:Int)
    all_goals go_wp2_with fail
    all_goals go_region
    all_goals go_wp2
    all_goals refine bodyPost_ret (v:=.tuple #[.slice A2 n c2,.int .i64 e0,.int .i64 s]) (by simp[results,results47,go_sem, *]) rfl ?_
    all_goals exact⟨A2,c2,⟨(s:Int),by rw[HE.out,HN.out]⟩,HO2.out.at_.drewN _,blw⟩
def endF (R:MS):Int×Bool×Int:=if oY R=0 then((R.st[0]?.getD (0,false)).1,(R.st[0]?.getD (0,false)).2,0) else(0,false,oY R)
theorem aLe (E:Int→Int→ByteArray→Int×Bool) (N:Int) (l:List Ins):uN E N l=endF (jB E N l l.length ⟨[],0,0⟩):=rfl
theorem mD (l:List Ins) (hl:l.length≤5000) (hok:dE 0 l.length l) (CA:Option Addr) (cc cl:Nat) (hcl:l.length=cl) (L:List aW) (hL:iY L) (A:Option Addr) (c m:Nat) (hm:L.length=m) (w:World) (G:Gl w) (hc:dI.At w CA cc l) (ho:dF.At w A c L) (r:Int×Bool×Int) (hr:uN (fun k n s=>cC k n s L) m l=r):
 Calls prog 15 #[.slice CA cl cc,.slice A m c] w (Ret (.tuple #[.int .i64 r.1,.bool r.2.1,.int .i64 r.2.2]) w):=by
 rw[aLe] at hr
 have HPL:Hid (∀R,jB (fun k n s=>cC k n s L) m l l.length ⟨[],0,0⟩=R→Calls prog 47 #[.slice CA cl cc,.slice A m c] w fun e w'=>∃(SA:Option Addr) (sc:Nat) (s:Int),e=.returned (.tuple #[.slice SA R.st.length sc,.int .i64 (oY R),.int .i64 s])∧dS.At w' SA sc R.st∧Below w.heap.size w w'):=Hd (fun R hR=>aG0 l hl hok CA cc cl hcl L hL A c m hm w G hc ho R hR)
 generalize jB (fun k n s=>cC k n s L) m l l.length ⟨[],0,0⟩=R at hr HPL
 replace HPL:=Hd (HPL.out R rfl)
 clear hl hok hcl hL hm G hc ho
 by_cases he:oY R=0
 ·have hn:R.st.length=1:=by
   unfold oY at he
   by_cases h:R.e=0∧R.st.length≠1
   ·rw[if_pos h] at he;cases he
   ·rw[if_neg h] at he
    by_cases h2:R.st.length=1
    ·exact h2
    ·exact absurd ⟨he,h2⟩ h
  obtain⟨x,hx⟩:∃x,R.st=[x]:=by
   match R.st,hn with
   |[x],_=>exact⟨x,rfl⟩
  have hr2:r=(x.1,x.2,0):=by rw[←hr];unfold endF;rw[if_pos he,hx];rfl
  subst hr2
  clear hr
  rw[he,hn,hx] at HPL
  obtain⟨xn,xp⟩:=x
  clear he hn hx
  go_enter func15,ntmps15
  go_wp2_with (first
   |(go_at_call 47;go_must (refine HPL.out.mono ?_;rintro e W1 ⟨SA,sc,s,rfl,ha,hb⟩;have HB1:Hid (Below w.heap.size w W1):=Hd hb;obtain⟨bb,off,rfl,hbb,x0,x1⟩:=qQ ha 0 (xn,xp) rfl;simp only[Nat.zero_mul,Nat.add_zero] at x0 x1;clear hb ha))
   )
  go_region
  all_goals go_wp2
  all_goals refine bodyPost_ret (v:=.tuple #[.int .i64 xn,.bool xp,.int .i64 0]) (by simp[results,results15,go_sem, *]) rfl ?_
  all_goals exact⟨rfl,blw⟩
 ·have hr2:r=(0,false,oY R):=by rw[←hr];unfold endF;rw[if_neg he]
  subst hr2
  have ze:(oY R==0)=false:=bN he
  have ze2:(oY R !=0)=true:=by simp[he]
  generalize oY R=e at HPL ze ze2
  clear he hr
  go_enter func15,ntmps15
  go_wp2_with (first
   |(go_at_call 47;go_must (refine HPL.out.mono ?_;rintro e W1 ⟨SA,sc,s,rfl,ha,hb⟩;have HB1:Hid (Below w.heap.size w W1):=Hd hb;clear hb ha))
   )
  all_goals refine bodyPost_ret (v:=.tuple #[.int .i64 0,.bool false,.int .i64 e]) (by simp[results,results15,go_sem, *]) rfl ?_
  all_goals exact⟨rfl,blw⟩
end Go.Proofs.YtlibhkkckgkkkaaGreatDoor.Tf
