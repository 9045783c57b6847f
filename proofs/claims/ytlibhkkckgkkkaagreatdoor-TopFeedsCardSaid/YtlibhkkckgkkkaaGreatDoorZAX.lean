/- Part of the proof of TopFeeds: TreG AwD AwH CodA AwJ CodB AwI CodC AwK CodD CodE ValA. -/
import Derived.Test.YtlibhkkckgkkkaaGreatDoorZAM
import Derived.Test.YtlibhkkckgkkkaaGreatDoorZAS
import Derived.Test.YtlibhkkckgkkkaaGreatDoorZAW
set_option maxHeartbeats 2000000
set_option maxRecDepth 100000
namespace Go.Proofs.YtlibhkkckgkkkaaGreatDoor.Tf
open Go.RowKit Go.Proofs.YtlibhkkckgkkkaaGreatDoor.Mem Go.Proofs.YtlibhkkckgkkkaaGreatDoor.Boo Go.Proofs.Tryz
theorem aGv {d:Nat} {c:Bool} {x:Ex} (h:Gen d c x):aM x≠[]:=by
 have ho:=aB2 h [] (.inl rfl) trivial
 rw[List.append_nil] at ho
 have hl:=xC _ ho
 intro e
 unfold aM at e
 rw[e] at hl
 have hp:eR x≠[]:=by
  obtain⟨k,n,s,xs⟩:=x
  rw[eR]
  split
  ·simp
  ·split <;> simp
 cases hq:eR x with
 |nil=>exact hp hq
 |cons a b=>rw[hq] at hl;simp at hl
theorem aOx {d:Nat} {c:Bool} {x:Ex} (h:Gen d c x) (hl:(aM x).length≤100000) (S:Nat→Prop) (v:EV) (w:World) (G:Gl w) (hat:bB S w x v):Calls prog 95 #[v.v] w (Ret (.string (bl (aM x))) w):=by
 obtain⟨k,n,s,A,m,c'⟩:=v
 have HPR:Hid (∀W,IsB (w.heap.size+1) [] W→Below (w.heap.size+1) (w.alloc (.cells #[.int .i64 k,.int .i64 n,.string s,.slice A m c'] 51)) W→Calls prog 167 #[.pointer (some ⟨w.heap.size+1,0,none⟩),.agg #[.int .i64 k,.int .i64 n,.string s,.slice A m c']] W fun e w'=>e=.returned (.tuple #[])∧IsB (w.heap.size+1) (aM x) w'∧bG (w.heap.size+1) W w'):=Hd (by
  have:=aDl d c x h (w.alloc (.cells #[.int .i64 k,.int .i64 n,.string s,.slice A m c'] 51)) S _ (G.below (aB bR _)) (hat.onBelow (aB bR _))
  intro W h1 h2
  have h3:=this [] W (by rw[sz1];exact h2) (by rw[sz1];exact h1) (by simpa using hl)
  rw[sz1,List.nil_append] at h3
  exact h3)
 have HNE:=Hd (aGv h)
 have HFR:Hid (IsB (w.heap.size+1) [] ((w.alloc (.cells #[.int .i64 k,.int .i64 n,.string s,.slice A m c'] 51)).alloc (.cells #[.pointer none,.slice none 0 0] 278))):=Hd (by
  have:=Lib.fresh_isBuilder 278 5 (w.alloc (.cells #[.int .i64 k,.int .i64 n,.string s,.slice A m c'] 51))
  rw[sz1] at this
  exact this)
 generalize aM x=L at HPR HNE ⊢
 unfold EV.v
 clear hat G hl h
 go_enter func95,ntmps95
 go_wp2_with (first
  |(go_at_call 167;refine(HPR.out _ HFR.out (Below.alloc bR (by simp) _)).mono ?_;rintro e W ⟨rfl,hB,hk⟩;have HB:=Hd hB;have HK:=Hd hk;clear hB hk)
  |(go_at_call 53;refine(aFd _ _ _ HB.out HNE.out).mono ?_;rintro e W2 ⟨rfl,hb⟩;have HB2:=Hd hb;clear hb))
 go_ret
 refine⟨rfl,?_⟩
 have h1:Below (w.heap.size+1) ((w.alloc (.cells #[.int .i64 k,.int .i64 n,.string s,.slice A m c'] 51)).alloc (.cells #[.pointer none,.slice none 0 0] 278)) W2:=HK.out.below.trans HB2.out
 exact(aB (aB bR _) _).trans (aP h1 (Nat.le_succ _))
theorem vV {d:Nat} {c:Bool} {x:Ex} (h:Gen d c x):2 * cJ x+1≤3 ^ d:=by
 induction h with
 |low d=>simp[cJ,eW];have:=Nat.pow_pos (n:=d) (show 0<3 by decide);rw[Nat.pow_succ];omega
 |sec d=>simp[cJ,eW];have:=Nat.pow_pos (n:=d) (show 0<3 by decide);rw[Nat.pow_succ];omega
 |frm d=>simp[cJ,eW];have:=Nat.pow_pos (n:=d) (show 0<3 by decide);rw[Nat.pow_succ];omega
 |fix d=>simp[cJ,eW];have:=Nat.pow_pos (n:=d) (show 0<3 by decide);rw[Nat.pow_succ];omega
 |more d=>simp[cJ,eW];have:=Nat.pow_pos (n:=d) (show 0<3 by decide);rw[Nat.pow_succ];omega
 |less d n h x hx ih=>simp[cJ,eW];rw[Nat.pow_succ];omega
 |cut d n h x hx ih=>simp[cJ,eW];rw[Nat.pow_succ];omega
 |two d k h x y hx hy ih1 ih2=>simp[cJ,eW];rw[Nat.pow_succ];omega
 |iff d c x y hc hx hy ih0 ih1 ih2=>simp[cJ,eW];rw[Nat.pow_succ];omega
 |abv d x y hx hy ih1 ih2=>simp[cJ,eW];rw[Nat.pow_succ];omega
theorem uO {x:Ex} (h:Gen 5 false x) (hl:(aM x).length≤2000) (S:Nat→Prop) (v:EV) (w:World) (G:Gl w) (hat:bB S w x v):Calls prog 44 #[v.v] w (Ret (.bool true) w):=by
 have hz:=vV h
 have HFI:Hid (∀W,Below w.heap.size w W→Calls prog 93 #[v.v,.int .i64 32,.bool false] W (Ret (.bool true) W)):=Hd (fun W hW=>aIn 5 false x h 32 (by decide) (by decide) v S W (hat.onBelow hW))
 have HSZ:Hid (∀W,Below w.heap.size w W→Calls prog 94 #[v.v] W (Ret (.int .i64 (cJ x)) W)):=Hd (fun W hW=>aF4 x v S W (hat.onBelow hW) (by omega))
 have HTX:Hid (∀W,Below w.heap.size w W→Calls prog 95 #[v.v] W (Ret (.string (bl (aM x))) W)):=Hd (fun W hW=>aOx h (by omega) S v W (G.below hW) (hat.onBelow hW))
 have z1:((cJ x:Nat):Int)≤2000:=by omega
 have z2:((bl (aM x)).size:Int)≤2000:=by rw[eM];omega
 obtain⟨k,n,s,A,m,c'⟩:=v
 unfold EV.v at *
 generalize bl (aM x)=T at HTX z2
 generalize cJ x=q at HSZ z1
 clear hat G hl h hz
 go_enter func44,ntmps44
 go_wp2_with (first
  |(go_at_call 93;go_must (refine rC w (HFI.out _ blw) ?_;intro W1 hb HB1;(obtain⟨⟨kc1_0_0,kc1_0_1,kc1_0_2,kc1_0_3⟩,kl1_0,kf1_0⟩:=kb4 hb (w.heap.size) (.int .i64 k) (.int .i64 n) (.string s) (.slice A m c'));clear hb))
  |(go_at_call 94;go_must (refine rC w (HSZ.out _ blw) ?_;intro W2 hb HB2;(obtain⟨⟨kc2_0_0,kc2_0_1,kc2_0_2,kc2_0_3⟩,kl2_0,kf2_0⟩:=kb4 hb (w.heap.size) (.int .i64 k) (.int .i64 n) (.string s) (.slice A m c'));clear hb))
  |(go_at_call 95;go_must (refine rB w (HTX.out _ blw) ?_;intro W3 HB3)))
 go_ret
 exact⟨rfl,HB3.out⟩
theorem aP9:Ent 324:=enters_of func324 (by kernel_rfl) rfl
theorem aQh:Ent 252:=enters_of func252 (by kernel_rfl) rfl
theorem uV (lb:Nat) (k p:ByteArray) (w:World) (c0:w.cell? ⟨lb,0,none⟩=some (.string k)) (c1:w.cell? ⟨lb,1,none⟩=some (.string p)) (hs:k.size+p.size≤100000000):
 Calls prog 249 #[.pointer (some ⟨lb,0,none⟩)] w (Ret (.string (k++p)) w):=by
 have hadd:∀W,(Op.stringOp .add k p).run prog W=.ok (.string (k++p)) W:=fun W=>run_string_add_sum W k p (by omega)
 clear hs
 go_enter func249,ntmps249
 go_wp2_with fail
 go_quiet (fail)
 go_wp2_with fail
 go_ret
 exact⟨rfl,blw⟩
def nM (lb:Nat) (a b:ByteArray) (w:World) (e:Ending) (w':World):Prop:=e=.returned (.tuple #[])∧Below lb w w'∧w'.heap[lb]?=some (.cells #[.string a,.string b] 372 (0,0))
theorem wU (lb:Nat) (v0 v1:Value) (s r:ByteArray) (n:Nat) (w:World) (h:w.heap[lb]?=some (.cells #[v0,v1] 372 (0,0))) (hn:n≤s.size) (hs:s.size≤100000000) (hr:s.extract 0 n=r):
 Calls prog 253 #[.pointer (some ⟨lb,0,none⟩),.string s,.int .i64 (n:Int)] w (nM lb r ⟨#[]⟩ w):=by
 have f0:∀o,w.frozen? ⟨lb,o,none⟩=false:=fun o=>fH h o
 have hl:=(gLt h)
 have c0:w.cell? ⟨lb,0,none⟩=some v0:=by rw[Lib.cell_of_heap h];rfl
 have c1:w.cell? ⟨lb,1,none⟩=some v1:=by rw[Lib.cell_of_heap h];rfl
 have HF:Hid (nM lb r ⟨#[]⟩ w (.returned (.tuple #[])) ((w.setCell ⟨lb,0,none⟩ (.string r)).setCell ⟨lb,1,none⟩ (.string ⟨#[]⟩))):=Hd ⟨rfl,aF (p:=⟨lb,1,none⟩) (aF (p:=⟨lb,0,none⟩) bR nR _) nR _,by
  have h1:=aE w lb 0 #[v0,v1] 372 (.string r) h
  exact aE _ lb 1 _ 372 (.string ⟨#[]⟩) h1⟩
 have z1:min (n:Int) (s.size:Int)=(n:Int):=by omega
 have z4:(n:Int)≤(s.size:Int):=by omega
 rcases Nat.eq_zero_or_pos n with h0|h0
 ·subst h0
  have hr0:r=⟨#[]⟩:=by rw[←hr];simp;rfl
  subst hr0
  have zz:(max (0:Int) (min 0 (s.size:Int))).toNat=0:=by omega
  have zs:s.extract 0 0=⟨#[]⟩:=hr
  clear h hn hr
  go_enter func253,ntmps253
  go_wp2_with fail
  go_end0
  exact HF.out
 ·have z2:max (0:Int) (n:Int)=(n:Int):=by omega
  have z3:(0:Int)<(n:Int):=by omega
  have z5:¬(n:Int)≤0:=by omega
  have z6:(0:Int)≤(n:Int):=by omega
  clear h hn h0
  go_enter func253,ntmps253
  go_wp2_with fail
  go_end0
  exact HF.out
theorem aCz (lb:Nat) (k p:ByteArray) (w:World) (h:w.heap[lb]?=some (.cells #[.string k,.string p] 372 (0,0))) (hs:k.size+p.size≤100000000):
 Calls prog 324 #[.pointer (some ⟨lb,0,none⟩)] w (nM lb (k++p) ⟨#[]⟩ w):=by
 have hl:=(gLt h)
 have HA:Hid (∀W,Below w.heap.size w W→Calls prog 249 #[.pointer (some ⟨lb,0,none⟩)] W (Ret (.string (k++p)) W)):=Hd (fun W hW=>uV lb k p W (aA ((hW.block lb hl).trans h) 0) (aA ((hW.block lb hl).trans h) 1) hs)
 have HK:Hid (∀W,Below w.heap.size w W→Calls prog 253 #[.pointer (some ⟨lb,0,none⟩),.string (k++p),.int .i64 ((k++p).size:Int)] W (nM lb (k++p) ⟨#[]⟩ W)):=Hd (fun W hW=>wU lb (.string k) (.string p) (k++p) (k++p) _ W ((hW.block lb hl).trans h) nR (by rw[ByteArray.size_append];omega) (ByteArray.extract_zero_size))
 have HL:=Hd (Nat.le_of_lt hl)
 generalize k++p=s at HA HK ⊢
 clear h hs hl
 go_enter func324,ntmps324
 go_wp2_with (first
  |(go_at_call 249;go_must (refine rB w (HA.out _ blw) ?_;intro W2 HB_W2))
  |(go_at_call 253;go_must (refine(HK.out _ blw).mono ?_;rintro e W ⟨rfl,hb,hh⟩;have HB:Hid (Below lb w W):=Hd ((aP (show Below w.heap.size w _ from blw) HL.out).trans hb);have HH:=Hd hh;clear hb hh)))
 go_end0
 exact⟨rfl,HB.out,HH.out⟩
theorem aJo {W:World} {nb:Nat} {v:Value} (h:W.heap[nb]?=some (.cells #[v] 3 (0,0))):W.cell? ⟨nb,0,none⟩=some v:=aA h 0
theorem aJq (lb nb n:Nat) (hnb:nb<lb) (k p r:ByteArray) (w:World) (h:w.heap[lb]?=some (.cells #[.string k,.string p] 372 (0,0))) (hb:w.heap[nb]?=some (.cells #[.int .i64 (n:Int)] 3 (0,0))) (hs:k.size+p.size≤100000000) (hn:n≤(k++p).size) (hr:(k++p).extract 0 n=r):
 Calls prog 252 #[.pointer (some ⟨lb,0,none⟩),.pointer (some ⟨nb,0,none⟩)] w (nM lb r ⟨#[]⟩ w):=by
 have hl:=(gLt h)
 have HA:Hid (∀W,Below w.heap.size w W→Calls prog 249 #[.pointer (some ⟨lb,0,none⟩)] W (Ret (.string (k++p)) W)):=Hd (fun W hW=>uV lb k p W (aA ((hW.block lb hl).trans h) 0) (aA ((hW.block lb hl).trans h) 1) hs)
 have HK:Hid (∀W,Below w.heap.size w W→Calls prog 253 #[.pointer (some ⟨lb,0,none⟩),.string (k++p),.int .i64 (n:Int)] W (nM lb r ⟨#[]⟩ W)):=Hd (fun W hW=>wU lb (.string k) (.string p) (k++p) r _ W ((hW.block lb hl).trans h) hn (by rw[ByteArray.size_append];omega) hr)
 have HL:=Hd (Nat.le_of_lt hl)
 have c0:w.cell? ⟨nb,0,none⟩=some (.int .i64 (n:Int)):=aJo hb
 generalize k++p=s at HA HK ⊢
 clear h hs hl hb hn hr
 go_enter func252,ntmps252
 go_wp2_with fail
 go_region_held3 (fun W'=>W'.cell? ⟨nb,0,none⟩=some (.int .i64 (n:Int))) (go_keep) (first
  |(go_at_call 249;go_must (refine(HA.out _ blw).mono ?_;rintro e W2 ⟨rfl,hb⟩;have k2:=bcl hb (nb) 0 (.int .i64 (n:Int));have HB2:=bst w hb;clear hb))
  |(go_at_call 253;go_must (refine(HK.out _ blw).mono ?_;rintro e W ⟨rfl,hb,hh⟩;have HB:Hid (Below lb w W):=Hd ((aP (show Below w.heap.size w _ from blw) HL.out).trans hb);have k3:W.cell? ⟨nb,0,none⟩=some (.int .i64 (n:Int)):=(hb.cell (p:=⟨nb,0,none⟩) hnb).trans (by first|assumption|(go_simp;done));have HH:=Hd hh;clear hb hh)))
 all_goals go_wp2_with fail
 all_goals go_end0
 all_goals exact⟨rfl,HB.out,HH.out⟩
theorem xI (f:Nat) (K:Array Value) (he:Ent f) (k p a b:ByteArray) (w:World)
 (hf:∀(lb:Nat) W,w.heap.size≤lb→Below w.heap.size w W→W.heap[lb]?=some (.cells #[.string k,.string p] 372 (0,0))→Calls prog f (#[.pointer (some ⟨lb,0,none⟩)]++K) W (nM lb a b W)):
 Calls prog 251 #[.agg #[.string k,.string p],.func (.func f) #[] K] w (Ret (.agg #[.string a,.string b]) w):=by
 have he2:∀args W,(callFunc f args).run prog W=.ok (.enter f args) W:=he
 have HF:=Hd hf
 clear hf he
 go_enter func251,ntmps251
 go_wp2_with fail
 obtain⟨W0,hW0⟩:∃W0,W0=(((w.alloc (Obj.cells #[.string k,.string p] 112)).alloc (Obj.cells #[.string ⟨#[]⟩,.string ⟨#[]⟩] 112)).alloc (Obj.cells #[.string k,.string p] 372)):=⟨_,rfl⟩
 rw[←hW0]
 have HB0:Hid (Below w.heap.size w W0):=Hd (by rw[hW0];exact blw)
 have r1:W0.heap[w.heap.size+1]?=some (.cells #[.string ⟨#[]⟩,.string ⟨#[]⟩] 112 (0,0)):=by
  rw[hW0]
  exact((aB (Below.refl (World.heap _).size _) _).block _ (by simp)).trans (by have:=aN (w.alloc (Obj.cells #[.string k,.string p] 112)) (.cells #[.string ⟨#[]⟩,.string ⟨#[]⟩] 112);simpa using this)
 have r2:W0.heap[w.heap.size+1+1]?=some (.cells #[.string k,.string p] 372 (0,0)):=by
  rw[hW0]
  have:=aN ((w.alloc (Obj.cells #[.string k,.string p] 112)).alloc (Obj.cells #[.string ⟨#[]⟩,.string ⟨#[]⟩] 112)) (.cells #[.string k,.string p] 372)
  simpa using this
 refine(HF.out (w.heap.size+1+1) W0 (by omega) HB0.out r2).mono ?_
 rintro e W ⟨rfl,hb,hh⟩
 have q1:=(hb.block (w.heap.size+1) (by omega)).trans r1
 have c0:W.cell? ⟨w.heap.size+1+1,0,none⟩=some (.string a):=aA hh 0
 have c1:W.cell? ⟨w.heap.size+1+1,1,none⟩=some (.string b):=aA hh 1
 have d0:W.cell? ⟨w.heap.size+1,0,none⟩=some (.string ⟨#[]⟩):=aA q1 0
 have d1:W.cell? ⟨w.heap.size+1,1,none⟩=some (.string ⟨#[]⟩):=aA q1 1
 have fz:∀o,W.frozen? ⟨w.heap.size+1,o,none⟩=false:=fun o=>fH q1 o
 have ql:w.heap.size+1<W.heap.size:=(gLt q1)
 have HB:Hid (Below w.heap.size w W):=Hd (HB0.out.trans (aP hb (by omega)))
 clear hb hh q1 r1 r2 hW0
 go_wp2_with fail
 refine bodyPost_ret (v:=.agg #[.string a,.string b]) (by simp[results,results251,go_sem, *]) rfl ⟨rfl,?_⟩
 exact blw
theorem aE1 (k p:ByteArray) (hs:k.size+p.size≤100000000) (w:World):Calls prog 303 #[.agg #[.string k,.string p]] w (Ret (.agg #[.string (k++p),.string ⟨#[]⟩]) w):=by
 have HD:Hid (∀W,Calls prog 251 #[.agg #[.string k,.string p],.func (.func 324) #[] #[]] W (Ret (.agg #[.string (k++p),.string ⟨#[]⟩]) W)):=Hd (fun W=>xI 324 #[] aP9 k p _ _ W (fun lb W' _ _ h=>aCz lb k p W' h hs))
 generalize k++p=s at HD ⊢
 clear hs
 go_enter func303,ntmps303
 go_wp2_with (go_at_call 251;go_must (refine rC w (HD.out _) ?_;intro wq2 hb Bq2;obtain⟨⟨kc2_0_0,kc2_0_1⟩,kl2_0,kf2_0⟩:=kb2 hb (w.heap.size+1) (.string ⟨#[]⟩) (.string ⟨#[]⟩);clear hb))
 refine bodyPost_ret (v:=.agg #[.string s,.string ⟨#[]⟩]) (by simp[results,results303,go_sem, *]) rfl ⟨rfl,?_⟩
 exact blw
theorem aJi (n:Nat) (k p r:ByteArray) (hs:k.size+p.size≤100000000) (hn:n≤(k++p).size) (hr:(k++p).extract 0 n=r) (w:World):Calls prog 189 #[.agg #[.string k,.string p],.int .i64 (n:Int)] w (Ret (.agg #[.string r,.string ⟨#[]⟩]) w):=by
 have HD:Hid (∀(nb:Nat) W,nb<W.heap.size→W.heap[nb]?=some (.cells #[.int .i64 (n:Int)] 3 (0,0))→Calls prog 251 #[.agg #[.string k,.string p],.func (.func 252) #[] #[.pointer (some ⟨nb,0,none⟩)]] W (Ret (.agg #[.string r,.string ⟨#[]⟩]) W)):=Hd (fun nb W hnb h0=>xI 252 #[.pointer (some ⟨nb,0,none⟩)] aQh k p _ _ W (fun lb W' hlb hW' h=>aJq lb nb n (Nat.lt_of_lt_of_le hnb hlb) k p r W' h ((hW'.block nb hnb).trans h0) hs hn hr))
 have HR:Hid ((((w.alloc (Obj.cells #[.string k,.string p] 112)).alloc (Obj.cells #[.int .i64 (n:Int)] 3)).alloc (Obj.cells #[.string ⟨#[]⟩,.string ⟨#[]⟩] 112)).heap[w.heap.size+1]?=some (.cells #[.int .i64 (n:Int)] 3 (0,0))):=Hd (((aB (Below.refl (World.heap _).size _) _).block _ (by simp)).trans (by have:=aN (w.alloc (Obj.cells #[.string k,.string p] 112)) (.cells #[.int .i64 (n:Int)] 3);simpa using this))
 clear hs hn hr
 go_enter func189,ntmps189
 go_wp2_with (go_at_call 251;go_must (refine rC w (HD.out (w.heap.size+1) _ (by simp) HR.out) ?_;intro W hb HB;(obtain⟨⟨kc3_0_0,kc3_0_1⟩,kl3_0,kf3_0⟩:=kb2 hb (w.heap.size+1+1) (.string ⟨#[]⟩) (.string ⟨#[]⟩));clear hb))
 refine bodyPost_ret (v:=.agg #[.string r,.string ⟨#[]⟩]) (by simp[results,results189,go_sem, *]) rfl ⟨rfl,?_⟩
 exact blw
theorem xM (k p:ByteArray) (hs:k.size+p.size≤100000000) (w:World):Calls prog 187 #[.agg #[.string k,.string p]] w (Ret (.string (k++p)) w):=by
 have HA:Hid (∀lb W,W.cell? ⟨lb,0,none⟩=some (.string k)→W.cell? ⟨lb,1,none⟩=some (.string p)→Calls prog 249 #[.pointer (some ⟨lb,0,none⟩)] W (Ret (.string (k++p)) W)):=Hd (fun lb W h0 h1=>uV lb k p W h0 h1 hs)
 generalize k++p=s at HA ⊢
 clear hs
 go_enter func187,ntmps187
 go_wp2_with (go_at_call 249;go_must (refine rB w (HA.out _ _ (by go_simp) (by go_simp)) ?_;intro W2 HB_W2))
 go_ret
 exact⟨rfl,blw⟩
theorem aJj (k p s:ByteArray) (hs:k.size+p.size+s.size≤1000000) (w:World):Calls prog 302 #[.agg #[.string k,.string p],.string s] w (Ret (.tuple #[.agg #[.string k,.string (p++s)],.int .i64 0]) w):=by
 have hadd:∀W,(Op.stringOp .add p s).run prog W=.ok (.string (p++s)) W:=fun W=>run_string_add_sum W p s (by omega)
 have z1:¬(k.size:Int)+(p.size:Int)+(s.size:Int)>1000000:=by omega
 have z2:wrap64 ((k.size:Int)+(p.size:Int))=(k.size:Int)+(p.size:Int):=Mem.w64 (by omega) (by omega)
 have z3:wrap64 ((k.size:Int)+(p.size:Int)+(s.size:Int))=(k.size:Int)+(p.size:Int)+(s.size:Int):=Mem.w64 (by omega) (by omega)
 clear hs
 go_enter func302,ntmps302
 go_wp2_with fail
 refine bodyPost_ret (v:=.tuple #[.agg #[.string k,.string (p++s)],.int .i64 0]) (by simp[results,results302,go_sem, *]) rfl ⟨rfl,?_⟩
 exact blw
theorem aB0 (s:ByteArray) (hs:s.size≤1000) (v:Int) (hv:bU s 1000000000000=v) (v0:0≤v) (w:World) (G:Gl w):Calls prog 198 #[.string s] w (Ret (.tuple #[.int .i64 v,.bool true]) w):=by
 have HC:Hid (∀W,Below w.heap.size w W→Calls prog 126 #[.string s,.int .i64 1000000000000] W (Ret (.int .i64 v) W)):=Hd (fun W hW=>by rw[←hv];exact mN s (by omega) 1000000000000 W (G.below hW))
 have z1:v≥0:=v0
 clear hs hv G
 go_enter func198,ntmps198
 go_wp2_with (go_at_call 126;go_must (refine rB w (HC.out _ blw) ?_;intro W1 HB_W1))
 exact bodyPost_ret (v:=.tuple #[.int .i64 v,.bool true]) (by simp[results,results198,go_sem]) rfl ⟨rfl,blw⟩
theorem kO (s:ByteArray) (hs:s.size≤1000) (v:Int) (hv:eF s=(v,0)) (v0:0≤v) (w:World) (G:Gl w):Calls prog 255 #[.string s] w (Ret (.tuple #[.int .i64 v,.bool true]) w):=by
 have HC:Hid (∀W,Below w.heap.size w W→Calls prog 216 #[.string s] W (Ret (.tuple #[.int .i64 v,.int .i64 0]) W)):=Hd (fun W hW=>by have:=pG s (by omega) W (G.below hW);rw[hv] at this;exact this)
 have z1:v≥0:=v0
 clear hs hv G
 go_enter func255,ntmps255
 go_wp2_with (go_at_call 216;go_must (refine rB w (HC.out _ blw) ?_;intro W1 HB_W1))
 exact bodyPost_ret (v:=.tuple #[.int .i64 v,.bool true]) (by simp[results,results255,go_sem]) rfl ⟨rfl,blw⟩
theorem aQb:Ent 298:=enters_of func298 (by kernel_rfl) rfl
theorem aI2:Ent 299:=enters_of func299 (by kernel_rfl) rfl
abbrev eZ (k:Int) (s t:ByteArray) (n0 n1 n2 n3 n4:Int):Value:=.agg #[.int .i64 k,.string s,.string t,.int .i64 n0,.int .i64 n1,.int .i64 n2,.int .i64 n3,.int .i64 n4]
theorem wJ (k:Int) (kb:Nat) (W:Value) (w:World) (h:w.cell? ⟨kb,0,none⟩=some (.int .i64 k)):Calls prog 299 #[W,.pointer (some ⟨kb,0,none⟩)] w (Ret (.tuple #[eZ k ⟨#[]⟩ ⟨#[]⟩ 0 0 0 0 0,.bool true]) w):=by
 have hl:=bL w _ h
 go_enter func299,ntmps299
 go_wp2_with fail
 exact bodyPost_ret (v:=.tuple #[eZ k ⟨#[]⟩ ⟨#[]⟩ 0 0 0 0 0,.bool true]) (by simp[results,results299,go_sem, *]) rfl ⟨rfl,blw⟩
structure Ins where
 o:Int
 n:Int
 s:ByteArray
abbrev Ins.v (x:Ins):Value:=.agg #[.int .i64 x.o,.int .i64 x.n,.string x.s]
def dI:En Ins:=⟨fun x=>[.int .i64 x.o,.int .i64 x.n,.string x.s],3,by omega,fun _=>rfl,fun x u hu=>by simp at hu;rcases hu with rfl|rfl|rfl <;> rfl⟩
theorem aMu:(prog.info? 197).map (fun i=>(i.zero,i.size,i.bytes))=some (some (.agg #[.int .i64 0,.int .i64 0,.string ⟨#[]⟩]),3,32):=by kernel_rfl
def opE:Array MapEntry:=#[⟨.int .i64 1,.int .i64 2,0⟩,⟨.int .i64 2,.int .i64 3,1⟩,⟨.int .i64 3,.int .i64 4,2⟩,⟨.int .i64 4,.int .i64 1,3⟩,⟨.int .i64 5,.int .i64 5,4⟩,⟨.int .i64 6,.int .i64 6,5⟩,⟨.int .i64 7,.int .i64 7,6⟩,⟨.int .i64 8,.int .i64 8,7⟩,⟨.int .i64 11,.int .i64 10,8⟩,⟨.int .i64 12,.int .i64 11,9⟩]
theorem bD {t kt et:TypeId} (ht:prog.underlying t=some (.map kt et)) (hk:prog.underlying kt=some (.int .i64)) (w:World) (es:Array MapEntry) (clk:Nat) (k:Int) (v:Value) (hn:∀e∈es.toList,∃j,e.key=.int .i64 j∧j≠k):
 (Instr.mapUpdate t (.map (some w.heap.size)) (.int .i64 k) v).run prog (w.alloc (.map es clk))=.ok () (w.alloc (.map (es.push {key:=.int .i64 k,val:=v,born:=clk}) (clk+1))):=by
 rw[jH ht hk (aN w _) k v hn]
 have e:∀X:Obj,(w.heap.push (.map es clk)).setIfInBounds w.heap.size X=w.heap.push X:=fun X=>by
  apply Array.ext'
  simp
 show Result.ok () ({(w.alloc (.map es clk)) with heap:=(w.heap.push (.map es clk)).setIfInBounds w.heap.size (.map (es.push {key:=.int .i64 k,val:=v,born:=clk}) (clk+1))}:World)=_
 rw[e]
 rfl
theorem aLv (w:World):Calls prog 45 #[] w fun e w'=>e=.returned (.map (some w.heap.size))∧w'=w.alloc (.map opE 10):=by
 have hmk:∀W,(Instr.makeMap 97 none).run prog W=.ok (.map (some W.heap.size)) (W.alloc (.map #[] 0)):=fun W=>by kernel_rfl
 have h0:=bD underlying97 underlying3 w #[] 0 1 (.int .i64 2) (by simp)
 have h1:=bD underlying97 underlying3 w #[⟨.int .i64 1,.int .i64 2,0⟩] 1 2 (.int .i64 3) (by simp)
 have h2:=bD underlying97 underlying3 w #[⟨.int .i64 1,.int .i64 2,0⟩,⟨.int .i64 2,.int .i64 3,1⟩] 2 3 (.int .i64 4) (by simp)
 have h3:=bD underlying97 underlying3 w #[⟨.int .i64 1,.int .i64 2,0⟩,⟨.int .i64 2,.int .i64 3,1⟩,⟨.int .i64 3,.int .i64 4,2⟩] 3 4 (.int .i64 1) (by simp)
 have h4:=bD underlying97 underlying3 w #[⟨.int .i64 1,.int .i64 2,0⟩,⟨.int .i64 2,.int .i64 3,1⟩,⟨.int .i64 3,.int .i64 4,2⟩,⟨.int .i64 4,.int .i64 1,3⟩] 4 5 (.int .i64 5) (by simp)
 have h5:=bD underlying97 underlying3 w #[⟨.int .i64 1,.int .i64 2,0⟩,⟨.int .i64 2,.int .i64 3,1⟩,⟨.int .i64 3,.int .i64 4,2⟩,⟨.int .i64 4,.int .i64 1,3⟩,⟨.int .i64 5,.int .i64 5,4⟩] 5 6 (.int .i64 6) (by simp)
 have h6:=bD underlying97 underlying3 w #[⟨.int .i64 1,.int .i64 2,0⟩,⟨.int .i64 2,.int .i64 3,1⟩,⟨.int .i64 3,.int .i64 4,2⟩,⟨.int .i64 4,.int .i64 1,3⟩,⟨.int .i64 5,.int .i64 5,4⟩,⟨.int .i64 6,.int .i64 6,5⟩] 6 7 (.int .i64 7) (by simp)
 have h7:=bD underlying97 underlying3 w #[⟨.int .i64 1,.int .i64 2,0⟩,⟨.int .i64 2,.int .i64 3,1⟩,⟨.int .i64 3,.int .i64 4,2⟩,⟨.int .i64 4,.int .i64 1,3⟩,⟨.int .i64 5,.int .i64 5,4⟩,⟨.int .i64 6,.int .i64 6,5⟩,⟨.int .i64 7,.int .i64 7,6⟩] 7 8 (.int .i64 8) (by simp)
 have h8:=bD underlying97 underlying3 w #[⟨.int .i64 1,.int .i64 2,0⟩,⟨.int .i64 2,.int .i64 3,1⟩,⟨.int .i64 3,.int .i64 4,2⟩,⟨.int .i64 4,.int .i64 1,3⟩,⟨.int .i64 5,.int .i64 5,4⟩,⟨.int .i64 6,.int .i64 6,5⟩,⟨.int .i64 7,.int .i64 7,6⟩,⟨.int .i64 8,.int .i64 8,7⟩] 8 11 (.int .i64 10) (by simp)
 have h9:=bD underlying97 underlying3 w #[⟨.int .i64 1,.int .i64 2,0⟩,⟨.int .i64 2,.int .i64 3,1⟩,⟨.int .i64 3,.int .i64 4,2⟩,⟨.int .i64 4,.int .i64 1,3⟩,⟨.int .i64 5,.int .i64 5,4⟩,⟨.int .i64 6,.int .i64 6,5⟩,⟨.int .i64 7,.int .i64 7,6⟩,⟨.int .i64 8,.int .i64 8,7⟩,⟨.int .i64 11,.int .i64 10,8⟩] 9 12 (.int .i64 11) (by simp)
 go_enter func45,ntmps45
 go_wp2
 go_ret
 exact⟨rfl,rfl⟩
def WrB (b q:Nat) (l:List Ins) (W:World):Prop:=∃A c,W.heap[b]?=some (.cells #[.slice A l.length c,.map (some q)] 100 (0,0))∧dI.Own 197 W b A c l
structure cF (b:Nat) (w w':World):Prop where
 below:Below b w w'
 other:Lib.OthersKept 197 (some b) w w'
 size:w.heap.size≤w'.heap.size
theorem cF.refl (b:Nat) (w:World):cF b w w:=⟨bR,Lib.OthersKept.refl _ _ _,nR⟩
theorem cF.trans {b:Nat} {w1 w2 w3:World} (h:cF b w1 w2) (k:cF b w2 w3):cF b w1 w3:=⟨h.below.trans k.below,h.other.trans k.other,Nat.le_trans h.size k.size⟩
theorem cF.alloc {b:Nat} {w w1:World} (h:cF b w w1) (hb:b≤w1.heap.size) (o:Obj):cF b w (w1.alloc o):=⟨h.below.alloc hb o,h.other.alloc o,by have:=h.size;simp;omega⟩
theorem cF.drewN {b:Nat} {w w1:World} (h:cF b w w1) (n:Nat):cF b w (w1.drewN n):=⟨aL h.below n,h.other,h.size⟩
theorem cF.block {b:Nat} {w w':World} (h:cF b w w') {X:Nat} {cs:Array Value} {t:TypeId} {fz:Nat×Nat} (hX:w.heap[X]?=some (.cells cs t fz)) (hne:X≠b) (ht:t≠197):w'.heap[X]?=some (.cells cs t fz):=
 h.other X _ hX (by simpa using hne) (fun c f e=>by injection e with _ e _;exact ht e)
theorem WrB.lt {b q:Nat} {l:List Ins} {W:World} (h:WrB b q l W):b<W.heap.size:=by
 obtain⟨A,c,h1,_⟩:=h
 exact(gLt h1)
theorem WrB.below {b q:Nat} {l:List Ins} {W W':World} (h:WrB b q l W) (hb:Below W.heap.size W W'):WrB b q l W':=by
 have hlt:=h.lt
 obtain⟨A,c,h1,h2⟩:=h
 exact⟨A,c,(hb.block b hlt).trans h1,h2.below hb⟩
theorem fS {α:Type} {d:En α} {e t:TypeId} {w:World} {base c:Nat} {A:Option Addr} {xs:List α} (h:d.Own e w base A c xs) {b:Nat} {cs:Array Value} {fz:Nat×Nat} (hb:w.heap[b]?=some (.cells cs t fz)) (ht:t≠e):(Value.slice A xs.length c).ownBlock≠some b:=by
 intro he
 obtain⟨c',fz',hg⟩:=Lib.ownsRow_kind h b he
 rw[hg] at hb
 injection hb with hb
 injection hb with _ e2 _
 exact ht e2.symm
theorem vH {W:World} {g:Nat} {x:Ins} (h0:W.cell? ⟨g,0,none⟩=some (.int .i64 x.o)) (h1:W.cell? ⟨g,1,none⟩=some (.int .i64 x.n)) (h2:W.cell? ⟨g,2,none⟩=some (.string x.s)):dI.At W (some ⟨g,0,none⟩) 1 [x]:=
 ⟨nR,by omega,(fun e=>by cases e),fun _=>⟨g,0,rfl,bL W _ h0,fun i hi=>by
   have hi3:i<3:=hi
   match i,hi3 with
   |0,_=>exact h0
   |1,_=>exact h1
   |2,_=>exact h2⟩⟩
theorem gO {w W w3:World} {b:Nat} {row:Option Nat} {cs:Array Value} {t:TypeId} (hb:Below w.heap.size w W) (hk:w.heap[b]?=some (.cells cs t (0,0))) (hg:W.grownBy w3 row) (hne:row≠some b):w3.heap[b]?=some (.cells cs t (0,0)):=by
 have hlt:=(gLt hk)
 have:=hb.size
 exact(hg.block b (by omega) (fun e=>hne e.symm)).trans ((hb.block b hlt).trans hk)
theorem cF.ofB {b:Nat} {w w2:World} (hb:b<w.heap.size) (k:Below w.heap.size w w2):cF b w w2:=⟨aP k (Nat.le_of_lt hb),fun i _ hi _ _=>(k.block i (gLt hi)).trans hi,k.size⟩
theorem WrB.app {b q:Nat} {l l':List Ins} {W w3:World} {A A':Option Addr} {c c':Nat} (hk:W.heap[b]?=some (.cells #[.slice A l.length c,.map (some q)] 100 (0,0))) (ho:dI.Own 197 W b A c l) (ho3:dI.Own 197 w3 b A' c' l') (hg:W.grownBy w3 (Value.slice A l.length c).ownBlock):
 WrB b q l' (w3.setCell ⟨b,0,none⟩ (.slice A' l'.length c'))∧cF b W (w3.setCell ⟨b,0,none⟩ (.slice A' l'.length c')):=by
 have hlt:=(gLt hk)
 have hb3:w3.heap[b]?=some (.cells #[.slice A l.length c,.map (some q)] 100 (0,0)):=(hg.block b hlt (fun e=>fS ho hk (by decide) e.symm)).trans hk
 refine⟨⟨A',c',aE w3 b 0 _ 100 _ hb3,?_⟩,⟨?_,?_,?_⟩⟩
 ·exact ho3.kept (row:=some b) ⟨rfl,rfl,rfl,by simp[World.setCell],fun k _ hk=>Below.heap_setCell _ _ _ _ (fun e=>hk (by simp[e]))⟩ (.inr (fS ho3 hb3 (by decide)))
 ·exact aH ((Below.refl b W).grown hg (Nat.le_of_lt hlt) (fun r hr=>(ho.row r hr).1)) nR _
 ·exact((Lib.OthersKept.refl 197 (some b) W).grown hg (Lib.ownsRow_kind ho)).setCell ⟨b,0,none⟩ rfl _
 ·have:=hg.size
  simpa[World.setCell] using this
theorem WrB.app2 {b q n:Nat} {l l':List Ins} {w W w3:World} {A A':Option Addr} {c c':Nat} (hB:Below w.heap.size w W) (hk:w.heap[b]?=some (.cells #[.slice A l.length c,.map (some q)] 100 (0,0))) (ho:dI.Own 197 w b A c l) (ho3:dI.Own 197 w3 b A' c' l') (hg:W.grownBy w3 (Value.slice A l.length c).ownBlock) (hn:l'.length=n):
 WrB b q l' (w3.setCell ⟨b,0,none⟩ (.slice A' n c'))∧cF b w (w3.setCell ⟨b,0,none⟩ (.slice A' n c')):=by
 subst hn
 have hlt:=(gLt hk)
 obtain⟨h1,h2⟩:=WrB.app ((hB.block b hlt).trans hk) (ho.below hB) ho3 hg
 exact⟨h1,(cF.ofB hlt hB).trans h2⟩
theorem uP (b q:Nat) (x:Ins) (l:List Ins) (w:World) (h:WrB b q l w) (hl:l.length≤100000):
 Calls prog 97 #[.pointer (some ⟨b,0,none⟩),x.v] w fun e w'=>e=.returned (.tuple #[])∧WrB b q (l++[x]) w'∧cF b w w':=by
 obtain⟨i0,hi,iz,isz,iby⟩:=info_parts aMu
 have hlt:=h.lt
 obtain⟨A,c,hk,ho⟩:=h
 obtain⟨xo,xn,xs⟩:=x
 have hk2:(w.alloc (.cells #[.int .i64 xo,.int .i64 xn,.string xs] 197)).heap[b]?=some (.cells #[.slice A l.length c,.map (some q)] 100 (0,0)):=(Below.heap_alloc w _ b hlt).trans hk
 have ho2:dI.Own 197 (w.alloc (.cells #[.int .i64 xo,.int .i64 xn,.string xs] 197)) b A c l:=ho.below (aB bR _)
 have c0:w.cell? ⟨b,0,none⟩=some (.slice A l.length c):=aA hk 0
 have f0:w.frozen? ⟨b,0,none⟩=false:=by simp[World.frozen?,hk]
 have HO:=Hd ho
 have HK:=Hd hk
 have HNE:=Hd (fS ho hk (by decide))
 unfold Ins.v
 clear hk ho hk2 ho2
 go_enter func97,ntmps97
 go_wp2_with fail
 go_region_law (first
  |(refine cO dI _ (by rfl) _ _ _ (by rfl) b 197 i0 _ 32 underlying54 hi iz isz iby rfl A c _ l (by rfl) rfl ?_ _ _ _ [⟨xo,xn,xs⟩] (by rfl) rfl ?_ ?_ ?_ ?_ ?_;(refine HO.out.below ?_;exact blw);(refine vH ?_ ?_ ?_ <;> (go_simp;done));(simp;omega);(simp;omega);(simp;omega);(intro A3 c3 w3 hown3 hg hat;have hb3:=gO (w:=w) blw HK.out hg HNE.out;have d0:w3.cell? ⟨b,0,none⟩=some (.slice A l.length c):=aA hb3 0;have g0:w3.frozen? ⟨b,0,none⟩=false:=fH hb3 0;have HO3:=Hd hown3;have HG:=Hd hg;clear hown3 hat hg hb3)))
 all_goals go_wp2
 all_goals go_end0
 all_goals exact⟨rfl,WrB.app2 blw HK.out HO.out HO3.out HG.out (by simp)⟩
end Go.Proofs.YtlibhkkckgkkkaaGreatDoor.Tf
namespace Go.Proofs.YtlibhkkckgkkkaaGreatDoor.Tf
open Go.RowKit Go.Proofs.YtlibhkkckgkkkaaGreatDoor.Mem Go.Proofs.YtlibhkkckgkkkaaGreatDoor.Boo
theorem aLz (g o n c:Nat) (nm s:ByteArray) (hs:s.size≤1000) (v:Int) (hv:eF s=(v,0)) (v0:0≤v) (hn:2≤n) (w:World) (G:Gl w) (h3:w.cell? ⟨g,o,none⟩=some (.string nm)) (h4:w.cell? ⟨g,o+1,none⟩=some (.string s)):
 Calls Tryz.prog 256 #[.slice (some ⟨g,o,none⟩) n c] w (Ret (.tuple #[eZ 1 nm ⟨#[]⟩ v 0 0 0 0,.bool true]) w):=by
 have HC:Hid (∀W,Below w.heap.size w W→Calls Tryz.prog 255 #[.string s] W (Ret (.tuple #[.int .i64 v,.bool true]) W)):=Hd (fun W hW=>kO s hs v hv v0 W (G.below hW))
 have hl3:=bL w _ h3
 have z0:(0:Int)<(n:Int):=by omega
 have z1:(1:Int)<(n:Int):=by omega
 clear hs hv G
 go_enter Tryz.func256,Tryz.ntmps256
 go_wp2_with (go_at_call 255;go_must (refine(HC.out _ blw).mono ?_;rintro e W1 ⟨rfl,hb⟩;have hr:W1.heap[w.heap.size]?=some (.cells #[.int .i64 0,.string ⟨#[]⟩,.string ⟨#[]⟩,.int .i64 0,.int .i64 0,.int .i64 0,.int .i64 0,.int .i64 0] 42 (0,0)):=(hb.block _ (by simp)).trans (aN w _);have k3:W1.cell? ⟨g,o,none⟩=some (.string nm):=aC hb (by first|assumption|(go_simp;done));have q0:W1.cell? ⟨w.heap.size,0,none⟩=some (.int .i64 0):=aA hr 0;have q1:W1.cell? ⟨w.heap.size,1,none⟩=some (.string ⟨#[]⟩):=aA hr 1;have q2:W1.cell? ⟨w.heap.size,2,none⟩=some (.string ⟨#[]⟩):=aA hr 2;have q3:W1.cell? ⟨w.heap.size,3,none⟩=some (.int .i64 0):=aA hr 3;have q4:W1.cell? ⟨w.heap.size,4,none⟩=some (.int .i64 0):=aA hr 4;have q5:W1.cell? ⟨w.heap.size,5,none⟩=some (.int .i64 0):=aA hr 5;have q6:W1.cell? ⟨w.heap.size,6,none⟩=some (.int .i64 0):=aA hr 6;have q7:W1.cell? ⟨w.heap.size,7,none⟩=some (.int .i64 0):=aA hr 7;have fz:∀o,W1.frozen? ⟨w.heap.size,o,none⟩=false:=fun o=>fH hr o;have lz:=(gLt hr);have HB1:=bst w hb;have HRZ:=Hd hr;clear hb hr))
 obtain⟨F,hF⟩:∃F,F=((((((((W1.setCell ⟨w.heap.size,0,none⟩ (.int .i64 1)).setCell ⟨w.heap.size,1,none⟩ (.string nm)).setCell ⟨w.heap.size,2,none⟩ (.string ⟨#[]⟩)).setCell ⟨w.heap.size,3,none⟩ (.int .i64 v)).setCell ⟨w.heap.size,4,none⟩ (.int .i64 0)).setCell ⟨w.heap.size,5,none⟩ (.int .i64 0)).setCell ⟨w.heap.size,6,none⟩ (.int .i64 0)).setCell ⟨w.heap.size,7,none⟩ (.int .i64 0)):=⟨_,rfl⟩
 rw[←hF]
 have hr:F.heap[w.heap.size]?=some (.cells #[.int .i64 1,.string nm,.string ⟨#[]⟩,.int .i64 v,.int .i64 0,.int .i64 0,.int .i64 0,.int .i64 0] 42 (0,0)):=by rw[hF];exact(aE _ _ 7 _ 42 _ (aE _ _ 6 _ 42 _ (aE _ _ 5 _ 42 _ (aE _ _ 4 _ 42 _ (aE _ _ 3 _ 42 _ (aE _ _ 2 _ 42 _ (aE _ _ 1 _ 42 _ (aE _ _ 0 _ 42 _ HRZ.out))))))))
 have hbF:Below w.heap.size w F:=by rw[hF];exact(aF (p:=⟨w.heap.size,7,none⟩) (aF (p:=⟨w.heap.size,6,none⟩) (aF (p:=⟨w.heap.size,5,none⟩) (aF (p:=⟨w.heap.size,4,none⟩) (aF (p:=⟨w.heap.size,3,none⟩) (aF (p:=⟨w.heap.size,2,none⟩) (aF (p:=⟨w.heap.size,1,none⟩) (aF (p:=⟨w.heap.size,0,none⟩) HB1.out nR _) nR _) nR _) nR _) nR _) nR _) nR _) nR _)
 have c0:F.cell? ⟨w.heap.size,0,none⟩=some (.int .i64 1):=aA hr 0
 have c1:F.cell? ⟨w.heap.size,1,none⟩=some (.string nm):=aA hr 1
 have c2:F.cell? ⟨w.heap.size,2,none⟩=some (.string ⟨#[]⟩):=aA hr 2
 have c3:F.cell? ⟨w.heap.size,3,none⟩=some (.int .i64 v):=aA hr 3
 have c4:F.cell? ⟨w.heap.size,4,none⟩=some (.int .i64 0):=aA hr 4
 have c5:F.cell? ⟨w.heap.size,5,none⟩=some (.int .i64 0):=aA hr 5
 have c6:F.cell? ⟨w.heap.size,6,none⟩=some (.int .i64 0):=aA hr 6
 have c7:F.cell? ⟨w.heap.size,7,none⟩=some (.int .i64 0):=aA hr 7
 clear hF hr q0 q1 q2 q3 q4 q5 q6 q7 k3 fz lz
 exact bodyPost_ret (v:=.tuple #[eZ 1 nm ⟨#[]⟩ v 0 0 0 0,.bool true]) (by simp[results,Tryz.results256,go_sem,c0,c1,c2,c3,c4,c5,c6,c7]) rfl ⟨rfl,hbF⟩
end Go.Proofs.YtlibhkkckgkkkaaGreatDoor.Tf
namespace Go.Proofs.YtlibhkkckgkkkaaGreatDoor.Tf
open Go.RowKit Go.Proofs.YtlibhkkckgkkkaaGreatDoor.Mem Go.Proofs.YtlibhkkckgkkkaaGreatDoor.Boo Go.Proofs.Tryz
theorem sB (b q:Nat) (o:Int) (l:List Ins) (w:World) (h:WrB b q l w) (hl:l.length≤100000):
 Calls prog 96 #[.pointer (some ⟨b,0,none⟩),.int .i64 o] w fun e w'=>e=.returned (.func (.func 168) #[] #[.pointer (some ⟨w.heap.size,0,none⟩),.pointer (some ⟨w.heap.size+1,0,none⟩)])∧WrB b q (l++[⟨o,0,⟨#[]⟩⟩]) w'∧cF b w w'∧w'.heap[w.heap.size]?=some (.cells #[.pointer (some ⟨b,0,none⟩)] 96 (0,0))∧w'.heap[w.heap.size+1]?=some (.cells #[.int .i64 l.length] 3 (0,0)):=by
 have hlt:=h.lt
 have HW:=Hd h
 obtain⟨A,c,hk,ho⟩:=h
 have c0:w.cell? ⟨b,0,none⟩=some (.slice A l.length c):=aA hk 0
 have HBL:=Hd hlt
 have HPU:Hid (∀W,WrB b q l W→Calls prog 97 #[.pointer (some ⟨b,0,none⟩),.agg #[.int .i64 o,.int .i64 0,.string ⟨#[]⟩]] W fun e w'=>e=.returned (.tuple #[])∧WrB b q (l++[⟨o,0,⟨#[]⟩⟩]) w'∧cF b W w'):=Hd (fun W hW=>uP b q ⟨o,0,⟨#[]⟩⟩ l W hW hl)
 clear hk ho hl
 have hmf:∀(fn:Fn) (first cap:Array Value) (w:World),(Instr.makeFunc fn first cap).run prog w=.ok (.func fn first cap) w:=fun _ _ _ _=>rfl
 go_enter func96,ntmps96
 go_wp2_with (first
  |(go_at_call 97;refine(HPU.out _ (HW.out.below blw)).mono ?_;rintro e W ⟨rfl,hB,hk⟩;have HB:=Hd hB;have HK:=Hd hk;clear hB hk))
 go_ret
 refine⟨rfl,HB.out,(cF.ofB HBL.out blw).trans HK.out,?_,?_⟩
 ·refine HK.out.block ?_ (by have:=HBL.out;omega) (by decide)
  exact(Below.heap_alloc _ _ _ (by simp)).trans (aN w _)
 ·refine HK.out.block ?_ (by have:=HBL.out;omega) (by decide)
  have:=aN (w.alloc (.cells #[.pointer (some ⟨b,0,none⟩)] 96)) (.cells #[.int .i64 l.length] 3)
  rw[sz1] at this
  exact this
theorem sC (b q P X k:Nat) (x:Ins) (l:List Ins) (w:World) (h:WrB b q l w) (hl:l.length≤100000) (hx:l[k]?=some x) (hP:w.heap[P]?=some (.cells #[.pointer (some ⟨b,0,none⟩)] 96 (0,0))) (hX:w.heap[X]?=some (.cells #[.int .i64 k] 3 (0,0))):
 Calls prog 168 #[.pointer (some ⟨P,0,none⟩),.pointer (some ⟨X,0,none⟩)] w fun e w'=>e=.returned (.tuple #[])∧WrB b q (l.set k ⟨x.o,l.length,x.s⟩) w'∧cF b w w':=by
 have hlt:=h.lt
 have hkl:k<l.length:=(List.getElem?_eq_some_iff.1 hx).1
 obtain⟨A,c,hk,ho⟩:=h
 obtain⟨g,rfl,hgb,hgl⟩:∃g,A=some ⟨g,0,none⟩∧b≤g∧g<w.heap.size:=by
  rcases ho.form with⟨_,_,rfl⟩|⟨g,h1,h2,h3,_⟩
  ·simp at hkl
  ·exact⟨g,h1,h2,h3⟩
 have d0:w.drew.cell? ⟨b,0,none⟩=some (.slice (some ⟨g,0,none⟩) l.length c):=aA hk 0
 have d1:w.drew.cell? ⟨P,0,none⟩=some (.pointer (some ⟨b,0,none⟩)):=aA hP 0
 have d2:w.drew.cell? ⟨X,0,none⟩=some (.int .i64 k):=aA hX 0
 have d3:w.drew.cell? ⟨g,k * 3+1,none⟩=some (.int .i64 x.n):=by
  obtain⟨b',off,e1,_,hc⟩:=ho.at_.get k x hx
  cases e1
  have:=hc 1 (by decide)
  rw[Nat.zero_add] at this
  exact this
 have f3:∀j,w.drew.frozen? ⟨g,j,none⟩=false:=fun j=>ho.free j
 have z1:(0:Int)≤(k:Int):=by omega
 have z2:(k:Int)<(l.length:Int):=by omega
 have HO:=Hd ho
 have HK:=Hd hk
 have HX:=Hd hx
 have HGB:=Hd hgb
 clear hk ho hP hX hx
 go_enter func168,ntmps168
 go_wp2_with fail
 refine wp_region_still_tail 12 (by kernel_rfl) (by kernel_rfl) ?_
 simp only[List.take_succ_cons,List.take_zero,List.drop_succ_cons,List.drop_zero]
 change wpStill prog _ w.drew _ _ _
 repeat still_step
 refine wpStill_nil ?_
 change wpList prog _ _ _ _ w.drew
 go_wp2_with fail
 go_end0
 have hne:(Value.slice (some ⟨g,0,none⟩) l.length c).ownBlock≠some b:=fS HO.out HK.out (by decide)
 have hgne:b≠g:=fun e=>hne (by simp[Value.ownBlock,e])
 obtain⟨cur,fz,hgr⟩:=Lib.ownsRow_kind HO.out g (by simp[Value.ownBlock])
 refine⟨rfl,⟨some ⟨g,0,none⟩,c,?_,?_⟩,⟨?_,?_,?_⟩⟩
 ·rw[List.length_set]
  exact(aG w ⟨g,k * 3+1,none⟩ (.int .i64 l.length) b hgne).trans HK.out
 ·exact gY HO.out k x ⟨x.o,l.length,x.s⟩ HX.out 1 (by decide) _ rfl
 ·exact aI (aH bR HGB.out _)
 ·intro i o hi hib ho
  have hig:i≠g:=by
   rintro rfl
   rw[hgr] at hi
   injection hi with hi
   exact ho cur fz hi.symm
  exact(aG w ⟨g,k * 3+1,none⟩ (.int .i64 l.length) i hig).trans hi
 ·simp[World.setCell,World.drew]
end Go.Proofs.YtlibhkkckgkkkaaGreatDoor.Tf
namespace Go.Proofs.YtlibhkkckgkkkaaGreatDoor.Tf
open Go.RowKit Go.Proofs.YtlibhkkckgkkkaaGreatDoor.Mem Go.Proofs.YtlibhkkckgkkkaaGreatDoor.Boo
theorem aAn (k m:Int) (kb mb g o n c:Nat) (s:ByteArray) (hs:s.size≤1000) (v:Int) (hv:bU s 1000000000000=v) (v0:0≤v) (hn:1≤n) (w:World) (G:Gl w) (h:w.cell? ⟨kb,0,none⟩=some (.int .i64 k)) (h2:w.cell? ⟨mb,0,none⟩=some (.int .i64 m)) (h3:w.cell? ⟨g,o,none⟩=some (.string s)):
 Calls Tryz.prog 298 #[.slice (some ⟨g,o,none⟩) n c,.pointer (some ⟨kb,0,none⟩),.pointer (some ⟨mb,0,none⟩)] w (Ret (.tuple #[eZ k ⟨#[]⟩ ⟨#[]⟩ v m 0 0 0,.bool true]) w):=by
 have HC:Hid (∀W,Below w.heap.size w W→Calls Tryz.prog 198 #[.string s] W (Ret (.tuple #[.int .i64 v,.bool true]) W)):=Hd (fun W hW=>aB0 s hs v hv v0 W (G.below hW))
 have hl:=bL w _ h
 have hl2:=bL w _ h2
 have hl3:=bL w _ h3
 have z0:(0:Int)<(n:Int):=by omega
 clear hs hv G
 go_enter Tryz.func298,Tryz.ntmps298
 go_wp2_with (go_at_call 198;go_must (refine(HC.out _ blw).mono ?_;rintro e W1 ⟨rfl,hb⟩;have hr:W1.heap[w.heap.size]?=some (.cells #[.int .i64 0,.string ⟨#[]⟩,.string ⟨#[]⟩,.int .i64 0,.int .i64 0,.int .i64 0,.int .i64 0,.int .i64 0] 42 (0,0)):=(hb.block _ (by simp)).trans (aN w _);have k1:=bcl hb (kb) 0 (.int .i64 k);have k2:=bcl hb (mb) 0 (.int .i64 m);have q0:W1.cell? ⟨w.heap.size,0,none⟩=some (.int .i64 0):=aA hr 0;have q1:W1.cell? ⟨w.heap.size,1,none⟩=some (.string ⟨#[]⟩):=aA hr 1;have q2:W1.cell? ⟨w.heap.size,2,none⟩=some (.string ⟨#[]⟩):=aA hr 2;have q3:W1.cell? ⟨w.heap.size,3,none⟩=some (.int .i64 0):=aA hr 3;have q4:W1.cell? ⟨w.heap.size,4,none⟩=some (.int .i64 0):=aA hr 4;have q5:W1.cell? ⟨w.heap.size,5,none⟩=some (.int .i64 0):=aA hr 5;have q6:W1.cell? ⟨w.heap.size,6,none⟩=some (.int .i64 0):=aA hr 6;have q7:W1.cell? ⟨w.heap.size,7,none⟩=some (.int .i64 0):=aA hr 7;have fz:∀o,W1.frozen? ⟨w.heap.size,o,none⟩=false:=fun o=>fH hr o;have lz:=(gLt hr);have HB1:=bst w hb;have HRZ:=Hd hr;clear hb hr))
 obtain⟨F,hF⟩:∃F,F=((((((((W1.setCell ⟨w.heap.size,0,none⟩ (.int .i64 k)).setCell ⟨w.heap.size,1,none⟩ (.string ⟨#[]⟩)).setCell ⟨w.heap.size,2,none⟩ (.string ⟨#[]⟩)).setCell ⟨w.heap.size,3,none⟩ (.int .i64 v)).setCell ⟨w.heap.size,4,none⟩ (.int .i64 m)).setCell ⟨w.heap.size,5,none⟩ (.int .i64 0)).setCell ⟨w.heap.size,6,none⟩ (.int .i64 0)).setCell ⟨w.heap.size,7,none⟩ (.int .i64 0)):=⟨_,rfl⟩
 rw[←hF]
 have hr:F.heap[w.heap.size]?=some (.cells #[.int .i64 k,.string ⟨#[]⟩,.string ⟨#[]⟩,.int .i64 v,.int .i64 m,.int .i64 0,.int .i64 0,.int .i64 0] 42 (0,0)):=by rw[hF];exact(aE _ _ 7 _ 42 _ (aE _ _ 6 _ 42 _ (aE _ _ 5 _ 42 _ (aE _ _ 4 _ 42 _ (aE _ _ 3 _ 42 _ (aE _ _ 2 _ 42 _ (aE _ _ 1 _ 42 _ (aE _ _ 0 _ 42 _ HRZ.out))))))))
 have hbF:Below w.heap.size w F:=by rw[hF];exact(aF (p:=⟨w.heap.size,7,none⟩) (aF (p:=⟨w.heap.size,6,none⟩) (aF (p:=⟨w.heap.size,5,none⟩) (aF (p:=⟨w.heap.size,4,none⟩) (aF (p:=⟨w.heap.size,3,none⟩) (aF (p:=⟨w.heap.size,2,none⟩) (aF (p:=⟨w.heap.size,1,none⟩) (aF (p:=⟨w.heap.size,0,none⟩) HB1.out nR _) nR _) nR _) nR _) nR _) nR _) nR _) nR _)
 have c0:F.cell? ⟨w.heap.size,0,none⟩=some (.int .i64 k):=aA hr 0
 have c1:F.cell? ⟨w.heap.size,1,none⟩=some (.string ⟨#[]⟩):=aA hr 1
 have c2:F.cell? ⟨w.heap.size,2,none⟩=some (.string ⟨#[]⟩):=aA hr 2
 have c3:F.cell? ⟨w.heap.size,3,none⟩=some (.int .i64 v):=aA hr 3
 have c4:F.cell? ⟨w.heap.size,4,none⟩=some (.int .i64 m):=aA hr 4
 have c5:F.cell? ⟨w.heap.size,5,none⟩=some (.int .i64 0):=aA hr 5
 have c6:F.cell? ⟨w.heap.size,6,none⟩=some (.int .i64 0):=aA hr 6
 have c7:F.cell? ⟨w.heap.size,7,none⟩=some (.int .i64 0):=aA hr 7
 clear hF hr q0 q1 q2 q3 q4 q5 q6 q7 k1 k2 fz lz
 exact bodyPost_ret (v:=.tuple #[eZ k ⟨#[]⟩ ⟨#[]⟩ v m 0 0 0,.bool true]) (by simp[results,Tryz.results298,go_sem,c0,c1,c2,c3,c4,c5,c6,c7]) rfl ⟨rfl,hbF⟩
end Go.Proofs.YtlibhkkckgkkkaaGreatDoor.Tf
namespace Go.Proofs.YtlibhkkckgkkkaaGreatDoor.Tf
open Go.RowKit Go.Proofs.YtlibhkkckgkkkaaGreatDoor.Mem Go.Proofs.YtlibhkkckgkkkaaGreatDoor.Boo Go.Proofs.Tryz
def opF (k:Int):Int:=if k=1 then 2 else if k=2 then 3 else if k=3 then 4 else if k=4 then 1 else if k=5 then 5 else if k=6 then 6 else if k=7 then 7 else if k=8 then 8 else if k=11 then 10 else if k=12 then 11 else 0
def cgR (f:Nat→Nat→List Ins) (p:Nat):Nat→List Ins
 |0=>[]
 |i+1=>cgR f p i++f i (p+(cgR f p i).length)
def oE (o:Int) (n:Nat):Ins:=⟨o,n,⟨#[]⟩⟩
mutual
def cgX:Ex→Nat→List Ins
 |.node k n s xs=>fun p=>
  if k=9 then
   cgL xs 0 p++oE 9 (p+(cgL xs 0 p).length+1+(cgL xs 1 (p+(cgL xs 0 p).length+1)).length)::cgL xs 1 (p+(cgL xs 0 p).length+1)
  else if k=10 then
   let cc:=cgL xs 0 p
   let ca:=cgL xs 1 (p+cc.length+1)
   let cb:=cgL xs 2 (p+cc.length+1+ca.length+1)
   cc++oE 12 (p+cc.length+1+ca.length+1)::(ca++oE 13 (p+cc.length+1+ca.length+1+cb.length)::cb)
  else cgR (cgL xs) p xs.length++[⟨opF k,n,s⟩]
def cgL:List Ex→Nat→Nat→List Ins
 |[]=>fun _ _=>[]
 |x::xs=>fun i p=>match i with
  |0=>cgX x p
  |i+1=>cgL xs i p
end
theorem jX (xs:List Ex) (i:Nat) (x:Ex) (h:xs[i]?=some x):cgL xs i=cgX x:=by
 induction xs generalizing i with
 |nil=>simp at h
 |cons y xs ih=>
  cases i with
  |zero=>simp at h;subst h;rw[cgL]
  |succ i=>rw[cgL];exact ih i (by simpa using h)
theorem nX (l:List Ins) (x y:Ins) (m:List Ins):(l++[x]++m).set l.length y=l++y::m:=by simp
def CgC (q:Nat) (w0:World) (x:Ex) (u:EV):Prop:=∀l w,Below w0.heap.size w0 w→WrB w0.heap.size q l w→(l++cgX x l.length).length≤100000→Calls prog 46 #[.pointer (some ⟨w0.heap.size,0,none⟩),u.v] w fun e w'=>e=.returned (.tuple #[])∧WrB w0.heap.size q (l++cgX x l.length) w'∧cF w0.heap.size w w'
def SubC (b q:Nat) (w0:World) (g:Nat→List Ins) (u:EV):Prop:=∀l w,Below b w0 w→WrB b q l w→(l++g l.length).length≤100000→Calls prog 46 #[.pointer (some ⟨b,0,none⟩),.agg #[.int .i64 u.k,.int .i64 u.n,.string u.s,.slice u.A u.m u.c]] w fun e w'=>e=.returned (.tuple #[])∧WrB b q (l++g l.length) w'∧cF b w w'
theorem aEt (b q:Nat) (w0:World) (hb0:b=w0.heap.size) (n:Int) (s:ByteArray) (ba off c:Nat) (v0 v1:EV) (g0 g1:Nat→List Ins) (hat:dX.At w0 (some ⟨ba,off,none⟩) c [v0,v1]) (h0:SubC b q w0 g0 v0) (h1:SubC b q w0 g1 v1) (l:List Ins) (ca cb:List Ins) (e0:g0 (l.length)=ca) (e1:g1 (l.length+ca.length+1)=cb) (w:World) (hb:Below b w0 w) (hW:WrB b q l w)
 (hlen:l.length+ca.length+1+cb.length≤100000):
 Calls prog 46 #[.pointer (some ⟨b,0,none⟩),.agg #[.int .i64 9,.int .i64 n,.string s,.slice (some ⟨ba,off,none⟩) 2 c]] w fun e w'=>e=.returned (.tuple #[])∧WrB b q (l++(ca++oE 9 (l.length+ca.length+1+cb.length)::cb)) w'∧cF b w w':=by
 have hlt:=hW.lt
 have HAT:=Hd hat
 have H0:=Hd h0
 have E0:=Hd e0
 have H1:=Hd h1
 have E1:=Hd e1
 have HB0:=Hd hb
 have HW0:=Hd hW
 have HBL:=Hd hlt
 have HLE:=Hd hlen
 have HBE:=Hd hb0
 obtain⟨ba',off',e1,hbl,c0,c1,c2,c3⟩:=eY (hat.below (by rw[←hb0];exact hb)) 0 v0 rfl
 cases e1
 simp only[Nat.zero_mul,Nat.add_zero] at c0 c1 c2 c3
 clear hat h0 e0 h1 e1 hb hW hlen hb0
 have HK0:Hid (cF b w (w.alloc (.cells #[.int .i64 9,.int .i64 n,.string s,.slice (some ⟨ba,off,none⟩) 2 c] 51))):=Hd ((cF.refl b w).alloc (Nat.le_of_lt HBL.out) _)
 have HX0:Hid ((w.alloc (.cells #[.int .i64 9,.int .i64 n,.string s,.slice (some ⟨ba,off,none⟩) 2 c] 51)).heap[w.heap.size]?=some (.cells #[.int .i64 9,.int .i64 n,.string s,.slice (some ⟨ba,off,none⟩) 2 c] 51 (0,0))):=Hd (aN w _)
 have HWa:Hid (WrB b q l (w.alloc (.cells #[.int .i64 9,.int .i64 n,.string s,.slice (some ⟨ba,off,none⟩) 2 c] 51))):=Hd (HW0.out.below (aB bR _))
 have HN0:Hid (l.length=l.length):=Hd rfl
 go_enter func46,ntmps46
 have hgg:g0 l.length=ca:=by rw[HN0.out];exact E0.out
 have hbd:(l++g0 l.length).length≤100000:=by have h1:=HLE.out;have h2:=HN0.out;rw[hgg,lA];omega
 have q1:=fun W h1 h2=>H0.out l W h1 h2 hbd
 rw[hgg] at q1
 have Q:=Hd q1
 clear hgg hbd q1
 go_wp2_with fail
 refine(Q.out _ (HB0.out.trans HK0.out.below) HWa.out).mono ?_
 clear Q
 rintro e W1 ⟨rfl,hW1,hk1⟩
 obtain⟨L1,hL⟩:∃L1,L1=l++ca:=⟨_,rfl⟩
 rw[←hL] at hW1
 have HL1:=Hd hL
 have HN1:Hid (L1.length=l.length+ca.length):=Hd (by have h2:=HN0.out;have h3:=congrArg List.length hL;rw[lA] at h3;omega)
 have HW1:=Hd hW1
 have HX1:=Hd (hk1.block HX0.out (by have:=HBL.out;omega) (by decide))
 have HK1:=Hd (HK0.out.trans hk1)
 clear hW1 hk1 hL
 have hbd:L1.length≤100000:=by have h1:=HLE.out;have h2:=HN1.out;omega
 have HQB:=Hd hbd
 clear hbd
 go_wp2_with fail
 refine(sB b q 9 L1 _ HW1.out HQB.out).mono ?_
 clear HQB
 rintro e W2 ⟨rfl,hW1,hk1,hp1,hx1⟩
 have HP2:=Hd hp1
 have HQ2:=Hd hx1
 have HS2:Hid (b<W1.heap.size∧W1.heap.size+1<W2.heap.size):=Hd ⟨HW1.out.lt,(gLt hx1)⟩
 clear hp1 hx1
 obtain⟨L2,hL⟩:∃L2,L2=L1++[⟨9,0,⟨#[]⟩⟩]:=⟨_,rfl⟩
 rw[←hL] at hW1
 have HL2:=Hd hL
 have HN2:Hid (L2.length=l.length+ca.length+1):=Hd (by have h2:=HN1.out;rw[hL,lA,List.length_singleton];omega)
 have HW2:=Hd hW1
 have HX2:=Hd (hk1.block HX1.out (by have:=HBL.out;omega) (by decide))
 have HK2:=Hd (HK1.out.trans hk1)
 have HP2x:=HP2
 have HQ2x:=HQ2
 clear hW1 hk1 hL
 have hbw:Below b w0 W2:=HB0.out.trans HK2.out.below
 obtain⟨ba',off',e1,hbl,c0,c1,c2,c3⟩:=eY (HAT.out.below (by rw[←HBE.out];exact hbw)) 1 v1 rfl
 cases e1
 have x0:W2.cell? ⟨w.heap.size,0,none⟩=some (.int .i64 9):=aA HX2.out 0
 have x3:W2.cell? ⟨w.heap.size,3,none⟩=some (.slice (some ⟨ba,off,none⟩) 2 c):=aA HX2.out 3
 have z1:(1:Int)<(2:Int):=by decide
 have hgg:g1 L2.length=cb:=by rw[HN2.out];exact E1.out
 have hbd:(L2++g1 L2.length).length≤100000:=by have h1:=HLE.out;have h2:=HN2.out;rw[hgg,lA];omega
 have q1:=fun W h1 h2=>H1.out L2 W h1 h2 hbd
 rw[hgg] at q1
 have Q:=Hd q1
 clear hgg hbd q1
 go_wp2_with fail
 refine(Q.out _ (HB0.out.trans HK2.out.below) HW2.out).mono ?_
 clear Q
 rintro e W3 ⟨rfl,hW1,hk1⟩
 obtain⟨L3,hL⟩:∃L3,L3=L2++cb:=⟨_,rfl⟩
 rw[←hL] at hW1
 have HL3:=Hd hL
 have HN3:Hid (L3.length=l.length+ca.length+1+cb.length):=Hd (by have h2:=HN2.out;have h3:=congrArg List.length hL;rw[lA] at h3;omega)
 have HW3:=Hd hW1
 have HX3:=Hd (hk1.block HX2.out (by have:=HBL.out;omega) (by decide))
 have HK3:=Hd (HK2.out.trans hk1)
 have HP2y:=Hd (hk1.block HP2x.out (by have:=HS2.out;omega) (by decide))
 have HQ2y:=Hd (hk1.block HQ2x.out (by have:=HS2.out;omega) (by decide))
 clear HP2x HQ2x
 have HP2x:=HP2y
 have HQ2x:=HQ2y
 clear HP2y HQ2y
 clear hW1 hk1 hL
 clear hbw
 have hbd:L3.length≤100000:=by have h1:=HLE.out;have h2:=HN3.out;omega
 have HQB:=Hd hbd
 have HGT:Hid (L3[L1.length]?=some ⟨9,0,⟨#[]⟩⟩):=Hd (by rw[HL3.out,HL2.out];simp)
 clear hbd
 go_wp2_with fail
 refine(sC b q W1.heap.size (W1.heap.size+1) L1.length ⟨9,0,⟨#[]⟩⟩ L3 _ HW3.out HQB.out HGT.out HP2x.out HQ2x.out).mono ?_
 clear HQB
 rintro e W4 ⟨rfl,hW1,hk1⟩
 obtain⟨L4,hL⟩:∃L4,L4=L3.set L1.length ⟨9,L3.length,⟨#[]⟩⟩:=⟨_,rfl⟩
 rw[←hL] at hW1
 have HL4:=Hd hL
 have HN4:Hid (L4.length=l.length+ca.length+1+cb.length):=Hd (by have h2:=HN3.out;rw[hL,List.length_set];omega)
 have HW4:=Hd hW1
 have HX4:=Hd (hk1.block HX3.out (by have:=HBL.out;omega) (by decide))
 have HK4:=Hd (HK3.out.trans hk1)
 have HP2y:=Hd (hk1.block HP2x.out (by have:=HS2.out;omega) (by decide))
 have HQ2y:=Hd (hk1.block HQ2x.out (by have:=HS2.out;omega) (by decide))
 clear HP2x HQ2x
 have HP2x:=HP2y
 have HQ2x:=HQ2y
 clear HP2y HQ2y
 clear hW1 hk1 hL
 go_wp2_with fail
 go_end0
 have hfin:L4=l++(ca++oE 9 (l.length+ca.length+1+cb.length)::cb):=by
  rw[HL4.out,HN3.out,HL3.out,HL2.out,nX,HL1.out]
  simp[oE]
 exact⟨rfl,by rw[←hfin];exact HW4.out,HK4.out⟩
theorem aNd (b q:Nat) (w0:World) (hb0:b=w0.heap.size) (n:Int) (s:ByteArray) (ba off c:Nat) (v0 v1 v2:EV) (g0 g1 g2:Nat→List Ins) (hat:dX.At w0 (some ⟨ba,off,none⟩) c [v0,v1,v2]) (h0:SubC b q w0 g0 v0) (h1:SubC b q w0 g1 v1) (h2:SubC b q w0 g2 v2) (l:List Ins) (ca cb cc:List Ins) (e0:g0 (l.length)=ca) (e1:g1 (l.length+ca.length+1)=cb) (e2:g2 (l.length+ca.length+1+cb.length+1)=cc) (w:World) (hb:Below b w0 w) (hW:WrB b q l w)
 (hlen:l.length+ca.length+1+cb.length+1+cc.length≤100000):
 Calls prog 46 #[.pointer (some ⟨b,0,none⟩),.agg #[.int .i64 10,.int .i64 n,.string s,.slice (some ⟨ba,off,none⟩) 3 c]] w fun e w'=>e=.returned (.tuple #[])∧WrB b q (l++(ca++oE 12 (l.length+ca.length+1+cb.length+1)::(cb++oE 13 (l.length+ca.length+1+cb.length+1+cc.length)::cc))) w'∧cF b w w':=by
 have hlt:=hW.lt
 have HAT:=Hd hat
 have H0:=Hd h0
 have E0:=Hd e0
 have H1:=Hd h1
 have E1:=Hd e1
 have H2:=Hd h2
 have E2:=Hd e2
 have HB0:=Hd hb
 have HW0:=Hd hW
 have HBL:=Hd hlt
 have HLE:=Hd hlen
 have HBE:=Hd hb0
 obtain⟨ba',off',e1,hbl,c0,c1,c2,c3⟩:=eY (hat.below (by rw[←hb0];exact hb)) 0 v0 rfl
 cases e1
 simp only[Nat.zero_mul,Nat.add_zero] at c0 c1 c2 c3
 clear hat h0 e0 h1 e1 h2 e2 hb hW hlen hb0
 have HK0:Hid (cF b w (w.alloc (.cells #[.int .i64 10,.int .i64 n,.string s,.slice (some ⟨ba,off,none⟩) 3 c] 51))):=Hd ((cF.refl b w).alloc (Nat.le_of_lt HBL.out) _)
 have HX0:Hid ((w.alloc (.cells #[.int .i64 10,.int .i64 n,.string s,.slice (some ⟨ba,off,none⟩) 3 c] 51)).heap[w.heap.size]?=some (.cells #[.int .i64 10,.int .i64 n,.string s,.slice (some ⟨ba,off,none⟩) 3 c] 51 (0,0))):=Hd (aN w _)
 have HWa:Hid (WrB b q l (w.alloc (.cells #[.int .i64 10,.int .i64 n,.string s,.slice (some ⟨ba,off,none⟩) 3 c] 51))):=Hd (HW0.out.below (aB bR _))
 have HN0:Hid (l.length=l.length):=Hd rfl
 go_enter func46,ntmps46
 have hgg:g0 l.length=ca:=by rw[HN0.out];exact E0.out
 have hbd:(l++g0 l.length).length≤100000:=by have h1:=HLE.out;have h2:=HN0.out;rw[hgg,lA];omega
 have q1:=fun W h1 h2=>H0.out l W h1 h2 hbd
 rw[hgg] at q1
 have Q:=Hd q1
 clear hgg hbd q1
 go_wp2_with fail
 refine(Q.out _ (HB0.out.trans HK0.out.below) HWa.out).mono ?_
 clear Q
 rintro e W1 ⟨rfl,hW1,hk1⟩
 obtain⟨L1,hL⟩:∃L1,L1=l++ca:=⟨_,rfl⟩
 rw[←hL] at hW1
 have HL1:=Hd hL
 have HN1:Hid (L1.length=l.length+ca.length):=Hd (by have h2:=HN0.out;have h3:=congrArg List.length hL;rw[lA] at h3;omega)
 have HW1:=Hd hW1
 have HX1:=Hd (hk1.block HX0.out (by have:=HBL.out;omega) (by decide))
 have HK1:=Hd (HK0.out.trans hk1)
 clear hW1 hk1 hL
 have hbd:L1.length≤100000:=by have h1:=HLE.out;have h2:=HN1.out;omega
 have HQB:=Hd hbd
 clear hbd
 go_wp2_with fail
 refine(sB b q 12 L1 _ HW1.out HQB.out).mono ?_
 clear HQB
 rintro e W2 ⟨rfl,hW1,hk1,hp1,hx1⟩
 have HP2:=Hd hp1
 have HQ2:=Hd hx1
 have HS2:Hid (b<W1.heap.size∧W1.heap.size+1<W2.heap.size):=Hd ⟨HW1.out.lt,(gLt hx1)⟩
 clear hp1 hx1
 obtain⟨L2,hL⟩:∃L2,L2=L1++[⟨12,0,⟨#[]⟩⟩]:=⟨_,rfl⟩
 rw[←hL] at hW1
 have HL2:=Hd hL
 have HN2:Hid (L2.length=l.length+ca.length+1):=Hd (by have h2:=HN1.out;rw[hL,lA,List.length_singleton];omega)
 have HW2:=Hd hW1
 have HX2:=Hd (hk1.block HX1.out (by have:=HBL.out;omega) (by decide))
 have HK2:=Hd (HK1.out.trans hk1)
 have HP2x:=HP2
 have HQ2x:=HQ2
 clear hW1 hk1 hL
 have hbw:Below b w0 W2:=HB0.out.trans HK2.out.below
 obtain⟨ba',off',e1,hbl,c0,c1,c2,c3⟩:=eY (HAT.out.below (by rw[←HBE.out];exact hbw)) 1 v1 rfl
 cases e1
 have x0:W2.cell? ⟨w.heap.size,0,none⟩=some (.int .i64 10):=aA HX2.out 0
 have x3:W2.cell? ⟨w.heap.size,3,none⟩=some (.slice (some ⟨ba,off,none⟩) 3 c):=aA HX2.out 3
 have z1:(1:Int)<(3:Int):=by decide
 have hgg:g1 L2.length=cb:=by rw[HN2.out];exact E1.out
 have hbd:(L2++g1 L2.length).length≤100000:=by have h1:=HLE.out;have h2:=HN2.out;rw[hgg,lA];omega
 have q1:=fun W h1 h2=>H1.out L2 W h1 h2 hbd
 rw[hgg] at q1
 have Q:=Hd q1
 clear hgg hbd q1
 go_wp2_with fail
 refine(Q.out _ (HB0.out.trans HK2.out.below) HW2.out).mono ?_
 clear Q
 rintro e W3 ⟨rfl,hW1,hk1⟩
 obtain⟨L3,hL⟩:∃L3,L3=L2++cb:=⟨_,rfl⟩
 rw[←hL] at hW1
 have HL3:=Hd hL
 have HN3:Hid (L3.length=l.length+ca.length+1+cb.length):=Hd (by have h2:=HN2.out;have h3:=congrArg List.length hL;rw[lA] at h3;omega)
 have HW3:=Hd hW1
 have HX3:=Hd (hk1.block HX2.out (by have:=HBL.out;omega) (by decide))
 have HK3:=Hd (HK2.out.trans hk1)
 have HP2y:=Hd (hk1.block HP2x.out (by have:=HS2.out;omega) (by decide))
 have HQ2y:=Hd (hk1.block HQ2x.out (by have:=HS2.out;omega) (by decide))
 clear HP2x HQ2x
 have HP2x:=HP2y
 have HQ2x:=HQ2y
 clear HP2y HQ2y
 clear hW1 hk1 hL
 clear hbw
 have hbd:L3.length≤100000:=by have h1:=HLE.out;have h2:=HN3.out;omega
 have HQB:=Hd hbd
 clear hbd
 go_wp2_with fail
 refine(sB b q 13 L3 _ HW3.out HQB.out).mono ?_
 clear HQB
 rintro e W4 ⟨rfl,hW1,hk1,hp1,hx1⟩
 have HP4:=Hd hp1
 have HQ4:=Hd hx1
 have HS4:Hid (b<W3.heap.size∧W3.heap.size+1<W4.heap.size):=Hd ⟨HW3.out.lt,(gLt hx1)⟩
 clear hp1 hx1
 obtain⟨L4,hL⟩:∃L4,L4=L3++[⟨13,0,⟨#[]⟩⟩]:=⟨_,rfl⟩
 rw[←hL] at hW1
 have HL4:=Hd hL
 have HN4:Hid (L4.length=l.length+ca.length+1+cb.length+1):=Hd (by have h2:=HN3.out;rw[hL,lA,List.length_singleton];omega)
 have HW4:=Hd hW1
 have HX4:=Hd (hk1.block HX3.out (by have:=HBL.out;omega) (by decide))
 have HK4:=Hd (HK3.out.trans hk1)
 have HP2y:=Hd (hk1.block HP2x.out (by have:=HS2.out;omega) (by decide))
 have HQ2y:=Hd (hk1.block HQ2x.out (by have:=HS2.out;omega) (by decide))
 clear HP2x HQ2x
 have HP2x:=HP2y
 have HQ2x:=HQ2y
 clear HP2y HQ2y
 have HP4x:=HP4
 have HQ4x:=HQ4
 clear hW1 hk1 hL
 have hbd:L4.length≤100000:=by have h1:=HLE.out;have h2:=HN4.out;omega
 have HQB:=Hd hbd
 have HGT:Hid (L4[L1.length]?=some ⟨12,0,⟨#[]⟩⟩):=Hd (by rw[HL4.out,HL3.out,HL2.out];simp)
 clear hbd
 go_wp2_with fail
 refine(sC b q W1.heap.size (W1.heap.size+1) L1.length ⟨12,0,⟨#[]⟩⟩ L4 _ HW4.out HQB.out HGT.out HP2x.out HQ2x.out).mono ?_
 clear HQB
 rintro e W5 ⟨rfl,hW1,hk1⟩
 obtain⟨L5,hL⟩:∃L5,L5=L4.set L1.length ⟨12,L4.length,⟨#[]⟩⟩:=⟨_,rfl⟩
 rw[←hL] at hW1
 have HL5:=Hd hL
 have HN5:Hid (L5.length=l.length+ca.length+1+cb.length+1):=Hd (by have h2:=HN4.out;rw[hL,List.length_set];omega)
 have HW5:=Hd hW1
 have HX5:=Hd (hk1.block HX4.out (by have:=HBL.out;omega) (by decide))
 have HK5:=Hd (HK4.out.trans hk1)
 have HP2y:=Hd (hk1.block HP2x.out (by have:=HS2.out;omega) (by decide))
 have HQ2y:=Hd (hk1.block HQ2x.out (by have:=HS2.out;omega) (by decide))
 clear HP2x HQ2x
 have HP2x:=HP2y
 have HQ2x:=HQ2y
 clear HP2y HQ2y
 have HP4y:=Hd (hk1.block HP4x.out (by have:=HS4.out;omega) (by decide))
 have HQ4y:=Hd (hk1.block HQ4x.out (by have:=HS4.out;omega) (by decide))
 clear HP4x HQ4x
 have HP4x:=HP4y
 have HQ4x:=HQ4y
 clear HP4y HQ4y
 clear hW1 hk1 hL
 have hbw:Below b w0 W5:=HB0.out.trans HK5.out.below
 obtain⟨ba',off',e1,hbl,c0,c1,c2,c3⟩:=eY (HAT.out.below (by rw[←HBE.out];exact hbw)) 2 v2 rfl
 cases e1
 have x0:W5.cell? ⟨w.heap.size,0,none⟩=some (.int .i64 10):=aA HX5.out 0
 have x3:W5.cell? ⟨w.heap.size,3,none⟩=some (.slice (some ⟨ba,off,none⟩) 3 c):=aA HX5.out 3
 have z1:(2:Int)<(3:Int):=by decide
 have hgg:g2 L5.length=cc:=by rw[HN5.out];exact E2.out
 have hbd:(L5++g2 L5.length).length≤100000:=by have h1:=HLE.out;have h2:=HN5.out;rw[hgg,lA];omega
 have q1:=fun W h1 h2=>H2.out L5 W h1 h2 hbd
 rw[hgg] at q1
 have Q:=Hd q1
 clear hgg hbd q1
 go_wp2_with fail
 refine(Q.out _ (HB0.out.trans HK5.out.below) HW5.out).mono ?_
 clear Q
 rintro e W6 ⟨rfl,hW1,hk1⟩
 obtain⟨L6,hL⟩:∃L6,L6=L5++cc:=⟨_,rfl⟩
 rw[←hL] at hW1
 have HL6:=Hd hL
 have HN6:Hid (L6.length=l.length+ca.length+1+cb.length+1+cc.length):=Hd (by have h2:=HN5.out;have h3:=congrArg List.length hL;rw[lA] at h3;omega)
 have HW6:=Hd hW1
 have HX6:=Hd (hk1.block HX5.out (by have:=HBL.out;omega) (by decide))
 have HK6:=Hd (HK5.out.trans hk1)
 have HP2y:=Hd (hk1.block HP2x.out (by have:=HS2.out;omega) (by decide))
 have HQ2y:=Hd (hk1.block HQ2x.out (by have:=HS2.out;omega) (by decide))
 clear HP2x HQ2x
 have HP2x:=HP2y
 have HQ2x:=HQ2y
 clear HP2y HQ2y
 have HP4y:=Hd (hk1.block HP4x.out (by have:=HS4.out;omega) (by decide))
 have HQ4y:=Hd (hk1.block HQ4x.out (by have:=HS4.out;omega) (by decide))
 clear HP4x HQ4x
 have HP4x:=HP4y
 have HQ4x:=HQ4y
 clear HP4y HQ4y
 clear hW1 hk1 hL
 clear hbw
 have hbd:L6.length≤100000:=by have h1:=HLE.out;have h2:=HN6.out;omega
 have HQB:=Hd hbd
 have HGT:Hid (L6[L3.length]?=some ⟨13,0,⟨#[]⟩⟩):=Hd (by
  have s1:L4=L1++[⟨12,0,⟨#[]⟩⟩]++(cb++[⟨13,0,⟨#[]⟩⟩]):=by rw[HL4.out,HL3.out,HL2.out];simp
  have s2:L5=L1++⟨12,L4.length,⟨#[]⟩⟩::(cb++[⟨13,0,⟨#[]⟩⟩]):=by rw[HL5.out,s1,nX,←s1]
  have s3:L6=(L1++⟨12,L4.length,⟨#[]⟩⟩::cb)++[⟨13,0,⟨#[]⟩⟩]++cc:=by rw[HL6.out,s2];simp
  have s4:L3.length=(L1++⟨12,L4.length,⟨#[]⟩⟩::cb).length:=by have h1:=HN3.out;have h2:=HN1.out;rw[lA,List.length_cons];omega
  rw[s4,s3];simp)
 clear hbd
 go_wp2_with fail
 refine(sC b q W3.heap.size (W3.heap.size+1) L3.length ⟨13,0,⟨#[]⟩⟩ L6 _ HW6.out HQB.out HGT.out HP4x.out HQ4x.out).mono ?_
 clear HQB
 rintro e W7 ⟨rfl,hW1,hk1⟩
 obtain⟨L7,hL⟩:∃L7,L7=L6.set L3.length ⟨13,L6.length,⟨#[]⟩⟩:=⟨_,rfl⟩
 rw[←hL] at hW1
 have HL7:=Hd hL
 have HN7:Hid (L7.length=l.length+ca.length+1+cb.length+1+cc.length):=Hd (by have h2:=HN6.out;rw[hL,List.length_set];omega)
 have HW7:=Hd hW1
 have HX7:=Hd (hk1.block HX6.out (by have:=HBL.out;omega) (by decide))
 have HK7:=Hd (HK6.out.trans hk1)
 have HP2y:=Hd (hk1.block HP2x.out (by have:=HS2.out;omega) (by decide))
 have HQ2y:=Hd (hk1.block HQ2x.out (by have:=HS2.out;omega) (by decide))
 clear HP2x HQ2x
 have HP2x:=HP2y
 have HQ2x:=HQ2y
 clear HP2y HQ2y
 have HP4y:=Hd (hk1.block HP4x.out (by have:=HS4.out;omega) (by decide))
 have HQ4y:=Hd (hk1.block HQ4x.out (by have:=HS4.out;omega) (by decide))
 clear HP4x HQ4x
 have HP4x:=HP4y
 have HQ4x:=HQ4y
 clear HP4y HQ4y
 clear hW1 hk1 hL
 go_wp2_with fail
 go_end0
 have hfin:L7=l++(ca++oE 12 (l.length+ca.length+1+cb.length+1)::(cb++oE 13 (l.length+ca.length+1+cb.length+1+cc.length)::cc)):=by
  have s1:L4=L1++[⟨12,0,⟨#[]⟩⟩]++(cb++[⟨13,0,⟨#[]⟩⟩]):=by rw[HL4.out,HL3.out,HL2.out];simp
  have s2:L5=L1++⟨12,L4.length,⟨#[]⟩⟩::(cb++[⟨13,0,⟨#[]⟩⟩]):=by rw[HL5.out,s1,nX,←s1]
  have s3:L6=(L1++⟨12,L4.length,⟨#[]⟩⟩::cb)++[⟨13,0,⟨#[]⟩⟩]++cc:=by rw[HL6.out,s2];simp
  have s4:L3.length=(L1++⟨12,L4.length,⟨#[]⟩⟩::cb).length:=by have h1:=HN3.out;have h2:=HN1.out;rw[lA,List.length_cons];omega
  rw[HL7.out,s4,s3,nX,←s3,HN6.out,HN4.out,HL1.out]
  simp[oE]
 exact⟨rfl,by rw[←hfin];exact HW7.out,HK7.out⟩
end Go.Proofs.YtlibhkkckgkkkaaGreatDoor.Tf
namespace Go.Proofs.YtlibhkkckgkkkaaGreatDoor.Tf
open Go.RowKit Go.Proofs.YtlibhkkckgkkkaaGreatDoor.Mem Go.Proofs.YtlibhkkckgkkkaaGreatDoor.Boo
theorem aAo (k m:Int) (w:World):Calls Tryz.prog 257 #[.int .i64 k,.int .i64 m] w fun e w'=>∃kb mb,e=.returned (.func (.func 298) #[] #[.pointer (some ⟨kb,0,none⟩),.pointer (some ⟨mb,0,none⟩)])∧w'.cell? ⟨kb,0,none⟩=some (.int .i64 k)∧w'.cell? ⟨mb,0,none⟩=some (.int .i64 m)∧Below w.heap.size w w':=by
 go_enter Tryz.func257,Tryz.ntmps257
 go_wp2_with fail
 go_ret
 exact⟨_,_,rfl,by go_simp,by go_simp,blw⟩
end Go.Proofs.YtlibhkkckgkkkaaGreatDoor.Tf
namespace Go.Proofs.YtlibhkkckgkkkaaGreatDoor.Tf
open Go.RowKit Go.Proofs.YtlibhkkckgkkkaaGreatDoor.Mem Go.Proofs.YtlibhkkckgkkkaaGreatDoor.Boo Go.Proofs.Tryz
theorem aL2 (k:Int) (hk:k=1∨k=2∨k=3∨k=4∨k=5∨k=6∨k=7∨k=8∨k=11∨k=12) (q:Nat) (W:World) (hq:W.heap[q]?=some (.map opE 10)):
 (Instr.lookup 97 (.map (some q)) (.int .i64 k) false).run prog W=.ok (.int .i64 (opF k)) W:=by
 have h:=nY (w:=W) (P:=prog) underlying97 underlying3 hq k (.int .i64 (opF k))
 rcases hk with rfl|rfl|rfl|rfl|rfl|rfl|rfl|rfl|rfl|rfl <;> exact h (by simp[opE,opF]) (by simp[opE]) false
theorem aIw (b q:Nat) (w0:World) (hb0:b=w0.heap.size) (k n:Int) (hk:k=1∨k=2∨k=3∨k=4∨k=5∨k=6∨k=7∨k=8∨k=11∨k=12) (s:ByteArray) (A:Option Addr) (c m:Nat) (vs:List EV) (xs:List Ex) (hm:xs.length=m) (hv:vs.length=m) (hat:dX.At w0 A c vs) (hq:w0.heap[q]?=some (.map opE 10))
 (hs:∀(i:Nat) (x:Ex) (u:EV),xs[i]?=some x→vs[i]?=some u→SubC b q w0 (cgX x) u) (l:List Ins) (w:World) (hb:Below b w0 w) (hW:WrB b q l w)
 (hlen:l.length+(cgR (cgL xs) l.length m).length+1≤100000):
 Calls prog 46 #[.pointer (some ⟨b,0,none⟩),.agg #[.int .i64 k,.int .i64 n,.string s,.slice A m c]] w fun e w'=>e=.returned (.tuple #[])∧WrB b q (l++(cgR (cgL xs) l.length m++[⟨opF k,n,s⟩])) w'∧cF b w w':=by
 have hlt:=hW.lt
 have HAT:=Hd hat
 have HS:=Hd hs
 have HM:=Hd hm
 have HV:=Hd hv
 have HB0:=Hd hb
 have HBL:=Hd hlt
 have HLE:=Hd hlen
 have HBE:=Hd hb0
 have HQ:=Hd hq
 have HMX:Hid (m≤c∧c≤9223372036854775807):=Hd ⟨by have:=hat.le;omega,hat.max⟩
 have HLK:Hid (∀W,W.heap[q]?=some (.map opE 10)→(Instr.lookup 97 (.map (some q)) (.int .i64 k) false).run prog W=.ok (.int .i64 (opF k)) W):=Hd (fun W h=>aL2 k hk q W h)
 have zk9:(k==9)=false:=bN (by omega)
 have zk10:(k==10)=false:=bN (by omega)
 have HK0:Hid (cF b w (w.alloc (.cells #[.int .i64 k,.int .i64 n,.string s,.slice A m c] 51))):=Hd ((cF.refl b w).alloc (Nat.le_of_lt HBL.out) _)
 have HX0:Hid ((w.alloc (.cells #[.int .i64 k,.int .i64 n,.string s,.slice A m c] 51)).heap[w.heap.size]?=some (.cells #[.int .i64 k,.int .i64 n,.string s,.slice A m c] 51 (0,0))):=Hd (aN w _)
 have HWa:Hid (WrB b q l (w.alloc (.cells #[.int .i64 k,.int .i64 n,.string s,.slice A m c] 51))):=Hd (hW.below (aB bR _))
 clear hat hs hm hv hb hlt hlen hb0 hq hk hW
 go_enter func46,ntmps46
 go_wp2_with fail
 go_loopw [14] (fun iv wr=>∃i:Nat,i≤m∧iv=.int .i64 i∧Hid (WrB b q (l++cgR (cgL xs) l.length i) wr)∧Hid (cF b w wr)∧Hid (wr.heap[w.heap.size]?=some (.cells #[.int .i64 k,.int .i64 n,.string s,.slice A m c] 51 (0,0)))∧Hid (i=m∨(cgR (cgL xs) l.length i).length≤100000)) (fun iv _=>m-(intOf iv).toNat)
 case atStart=>exact⟨0,Nat.zero_le _,rfl,Hd (by simpa[cgR] using HWa.out),HK0,HX0,Hd (.inr (by simp[cgR]))⟩
 case round=>
  obtain⟨i,him,rfl,HWi,HKi,HXi,_⟩:=hrel
  by_cases hlt:i<m
  ·have hxi:xs[i]?=some (xs[i]'(by have:=HM.out;omega)):=gE _
   have hvi:vs[i]?=some (vs[i]'(by have:=HV.out;omega)):=gE _
   have hbw:Below b w0 wr:=HB0.out.trans HKi.out.below
   have hsub:=HS.out i _ _ hxi hvi
   obtain⟨ba,off,rfl,hbl,c0,c1,c2,c3⟩:=eY (HAT.out.below (by rw[←HBE.out];exact hbw)) i _ hvi
   generalize vs[i]'(by have:=HV.out;omega)=u at hsub c0 c1 c2 c3 hvi
   have hcl:=jX xs i _ hxi
   generalize xs[i]'(by have:=HM.out;omega)=y at hsub hxi hcl
   obtain⟨uk,un,us,uA,um,uc⟩:=u
   dsimp only at c0 c1 c2 c3
   have HZI:Hid (wrap64 ((i:Int)+1)=((i+1:Nat):Int)):=Hd (by rw[Mem.w64 (by omega) (by have:=HMX.out;omega)];omega)
   have zlt:(i:Int)<(m:Int):=by omega
   have HLT:=Hd hlt
   have hle:∀j,j≤m→(cgR (cgL xs) l.length j).length≤(cgR (cgL xs) l.length m).length:=fun j hj=>by
    have:∀d,(cgR (cgL xs) l.length j).length≤(cgR (cgL xs) l.length (j+d)).length:=fun d=>by
     induction d with
     |zero=>exact nR
     |succ d ih=>rw[←Nat.add_assoc,cgR,lA];omega
    have:=this (m-j)
    rwa [Nat.add_sub_cancel' hj] at this
   have hst:cgR (cgL xs) l.length (i+1)=cgR (cgL xs) l.length i++cgX y (l++cgR (cgL xs) l.length i).length:=by rw[cgR,hcl,lA]
   have hbd:(l++cgR (cgL xs) l.length i++cgX y (l++cgR (cgL xs) l.length i).length).length≤100000:=by
    have h1:=HLE.out
    have h2:=hle (i+1) hlt
    rw[hst] at h2
    simp only[lA] at h2 ⊢
    omega
   have hq1:=fun W h1 h2=>hsub (l++cgR (cgL xs) l.length i) W h1 h2 hbd
   have Q:Hid (∀W,Below b w0 W→WrB b q (l++cgR (cgL xs) l.length i) W→Calls prog 46 #[.pointer (some ⟨b,0,none⟩),.agg #[.int .i64 uk,.int .i64 un,.string us,.slice uA um uc]] W fun e w'=>e=.returned (.tuple #[])∧WrB b q (l++cgR (cgL xs) l.length (i+1)) w'∧cF b W w'):=Hd (by rw[hst,←List.append_assoc];exact hq1)
   have HBR:=Hd hbw
   have HI2:Hid (i+1=m∨(cgR (cgL xs) l.length (i+1)).length≤100000):=Hd (.inr (by have h1:=HLE.out;have h2:=hle (i+1) hlt;omega))
   have HBS:Hid (b<wr.heap.size):=Hd HWi.out.lt
   clear hsub hxi hvi hcl hst hbd hq1 hle hlt hbw
   go_wp2_with fail
   refine(Q.out _ (HBR.out.alloc (Nat.le_of_lt HBS.out) _) (HWi.out.below (aB bR _))).mono ?_
   clear Q
   rintro e W2 ⟨rfl,hW2,hk2⟩
   have HX2:=Hd (hk2.block ((Below.heap_alloc wr _ _ (gLt HXi.out)).trans HXi.out) (by have:=HBL.out;omega) (by decide))
   have HW2:=Hd hW2
   have HK2:=Hd ((HKi.out.alloc (Nat.le_of_lt HBS.out) _).trans hk2)
   clear hW2 hk2
   go_wp2_with fail
   go_roundw
   case rel=>exact⟨i+1,HLT.out,(by first|rw[HZI.out]|rfl|simp),HW2,HK2,HX2,HI2⟩
   case measure=>have:=HLT.out;(try rw[HZI.out]);simp[intOf];omega
  ·obtain rfl:i=m:=by omega
   clear hlt
   have hq2:wr.drew.heap[q]?=some (.map opE 10):=by
    have hlt:q<b:=by
     have:=(gLt HQ.out)
     have:=HBE.out
     omega
    exact(HKi.out.below.block q (by omega)).trans ((HB0.out.block q (by omega)).trans HQ.out)
   have hlk:=HLK.out wr.drew hq2
   obtain⟨A2,c2,hk2,ho2⟩:=HWi.out
   have d0:wr.drew.cell? ⟨b,1,none⟩=some (.map (some q)):=aA hk2 1
   have x0:wr.drew.cell? ⟨w.heap.size,0,none⟩=some (.int .i64 k):=aA HXi.out 0
   have x1:wr.drew.cell? ⟨w.heap.size,1,none⟩=some (.int .i64 n):=aA HXi.out 1
   have x2:wr.drew.cell? ⟨w.heap.size,2,none⟩=some (.string s):=aA HXi.out 2
   have HPU:Hid (Calls prog 97 #[.pointer (some ⟨b,0,none⟩),.agg #[.int .i64 (opF k),.int .i64 n,.string s]] wr.drew fun e w'=>e=.returned (.tuple #[])∧WrB b q (l++cgR (cgL xs) l.length i++[⟨opF k,n,s⟩]) w'∧cF b wr.drew w'):=Hd (uP b q ⟨opF k,n,s⟩ (l++cgR (cgL xs) l.length i) wr.drew HWi.out (by have h1:=HLE.out;rw[lA];omega))
   clear hk2 ho2 hq2
   go_wp2_with fail
   refine wp_region_still_tail 13 (by kernel_rfl) (by kernel_rfl) ?_
   simp only[List.take_succ_cons,List.take_zero,List.drop_succ_cons,List.drop_zero]
   change wpStill prog _ wr.drew _ _ _
   repeat still_step
   refine wpStill_nil ?_
   change wpList prog _ _ _ _ wr.drew
   go_wp2_with (go_at_call 97;refine HPU.out.mono ?_;rintro e W2 ⟨rfl,hW2,hk2⟩;have HW2:=Hd hW2;have HK2:=Hd hk2;clear hW2 hk2)
   go_end0
   exact⟨rfl,by rw[←List.append_assoc];exact HW2.out,HKi.out.trans ((cF.refl b wr).drewN 1 |>.trans HK2.out)⟩
end Go.Proofs.YtlibhkkckgkkkaaGreatDoor.Tf
namespace Go.Proofs.YtlibhkkckgkkkaaGreatDoor.Tf
open Go.RowKit Go.Proofs.YtlibhkkckgkkkaaGreatDoor.Mem Go.Proofs.YtlibhkkckgkkkaaGreatDoor.Boo
theorem aJx (n:Int) (s:ByteArray) (xs:List Ex) (p:Nat):cgX (.node 9 n s xs) p=cgL xs 0 p++oE 9 (p+(cgL xs 0 p).length+1+(cgL xs 1 (p+(cgL xs 0 p).length+1)).length)::cgL xs 1 (p+(cgL xs 0 p).length+1):=by
 rw[cgX]
 exact if_pos rfl
theorem aA8 (n:Int) (s:ByteArray) (xs:List Ex) (p:Nat):cgX (.node 10 n s xs) p=cgL xs 0 p++oE 12 (p+(cgL xs 0 p).length+1+(cgL xs 1 (p+(cgL xs 0 p).length+1)).length+1)::(cgL xs 1 (p+(cgL xs 0 p).length+1)++oE 13 (p+(cgL xs 0 p).length+1+(cgL xs 1 (p+(cgL xs 0 p).length+1)).length+1+(cgL xs 2 (p+(cgL xs 0 p).length+1+(cgL xs 1 (p+(cgL xs 0 p).length+1)).length+1)).length)::cgL xs 2 (p+(cgL xs 0 p).length+1+(cgL xs 1 (p+(cgL xs 0 p).length+1)).length+1)):=by
 rw[cgX]
 rfl
theorem aJw (k n:Int) (s:ByteArray) (xs:List Ex) (p:Nat) (h9:k≠9) (h10:k≠10):cgX (.node k n s xs) p=cgR (cgL xs) p xs.length++[⟨opF k,n,s⟩]:=by
 rw[cgX]
 show(if k=9 then _ else _)=_
 rw[if_neg h9,if_neg h10]
theorem aN3 {f:Nat→Nat→List Ins} {p N:Nat}:∀m,(∀i,i<m→∀p,(f i p).length≤N)→(cgR f p m).length≤m * N:=by
 intro m
 induction m with
 |zero=>intro _;simp[cgR]
 |succ m ih=>
  intro h
  have h1:=ih (fun i hi=>h i (by omega))
  have h2:=h m (by omega) (p+(cgR f p m).length)
  rw[cgR,lA,Nat.add_mul]
  omega
theorem aJv:∀(d:Nat) (c:Bool) (x:Ex),Gen d c x→∀p,(cgX x p).length+2≤2 * 3 ^ d:=by
 intro d
 induction d with
 |zero=>intro c x h;cases h
 |succ d ih=>
  intro cnd x h p
  obtain⟨k,n,s,xs⟩:=x
  have hn:=iU h
  have hp:=Nat.pow_pos (n:=d) (show 0<3 by decide)
  obtain⟨q,hq,hq3,_⟩:=kM k
  have hl:xs.length=q:=by have:=hn.args;omega
  have hN:∀i,i<xs.length→∀p,(cgL xs i p).length+2≤2 * 3 ^ d:=fun i hi p=>by
   have hx:xs[i]?=some xs[i]:=gE hi
   rw[jX xs i _ hx]
   exact ih _ _ (hn.sub i _ hx) p
  have hargs:=hn.args
  rw[Nat.pow_succ]
  by_cases h9:k=9
  ·subst h9
   have h2:cH 9=2:=rfl
   have a0:=hN 0 (by omega) p
   have a1:=hN 1 (by omega) (p+(cgL xs 0 p).length+1)
   rw[aJx,lA,List.length_cons]
   omega
  by_cases h10:k=10
  ·subst h10
   have h2:cH 10=3:=rfl
   have a0:=hN 0 (by omega) p
   have a1:=hN 1 (by omega) (p+(cgL xs 0 p).length+1)
   have a2:=hN 2 (by omega) (p+(cgL xs 0 p).length+1+(cgL xs 1 (p+(cgL xs 0 p).length+1)).length+1)
   rw[aA8]
   simp only[lA,List.length_cons]
   omega
  rw[aJw k n s xs p h9 h10,lA,List.length_singleton]
  have h1:(cgR (cgL xs) p xs.length).length≤xs.length * (2 * 3 ^ d-2):=aN3 xs.length (fun i hi p=>by have:=hN i hi p;omega)
  have h3:xs.length * (2 * 3 ^ d-2)≤3 * (2 * 3 ^ d-2):=Nat.mul_le_mul_right _ (by omega)
  omega
theorem aN2:∀(d:Nat) (c:Bool) (x:Ex),Gen d c x→∀(q:Nat) (w0:World) (S:Nat→Prop) (u:EV),w0.heap[q]?=some (.map opE 10)→bB S w0 x u→CgC q w0 x u:=by
 intro d
 induction d with
 |zero=>intro c x h;cases h
 |succ d ih=>
  intro cnd x h q w0 S u hq hat0 l w hb hW hlen
  obtain⟨k,n,s,xs⟩:=x
  obtain⟨A,c,vs,rfl,hv,hat,hx⟩:=hat0.parts
  have hn:=iU h
  have hs:∀(i:Nat) (x:Ex) (u:EV),xs[i]?=some x→vs[i]?=some u→SubC w0.heap.size q w0 (cgX x) u:=fun i x u h1 h2=>ih _ x (hn.sub i x h1) q w0 S u hq (hx i x u h1 h2)
  obtain⟨z,hz,hz3,_⟩:=kM k
  have hl:xs.length=z:=by have:=hn.args;omega
  have hok:=hn.ok
  unfold EV.v
  by_cases h9:k=9
  ·subst h9
   rw[aJx] at hlen ⊢
   have h2:cH 9=2:=rfl
   obtain⟨x0,x1,rfl⟩:∃x0 x1,xs=[x0,x1]:=by
    match xs,(by omega:xs.length=2) with
    |[a,b],_=>exact⟨a,b,rfl⟩
   obtain⟨v0,v1,rfl⟩:∃x0 x1,vs=[x0,x1]:=by
    match vs,(by simpa using hv:vs.length=2) with
    |[a,b],_=>exact⟨a,b,rfl⟩
   obtain⟨ba,off,rfl,_⟩:=hat.cell (by simp)
   simp only[lA,List.length_cons] at hlen
   exact aEt w0.heap.size q w0 rfl n s ba off c v0 v1 (cgX x0) (cgX x1) hat (hs 0 _ _ rfl rfl) (hs 1 _ _ rfl rfl) l _ _ rfl rfl w hb hW (by simp only[jX [x0,x1] 0 x0 rfl,jX [x0,x1] 1 x1 rfl] at hlen;omega)
  by_cases h10:k=10
  ·subst h10
   rw[aA8] at hlen ⊢
   have h2:cH 10=3:=rfl
   obtain⟨x0,x1,x2,rfl⟩:∃x0 x1 x2,xs=[x0,x1,x2]:=by
    match xs,(by omega:xs.length=3) with
    |[a,b,c],_=>exact⟨a,b,c,rfl⟩
   obtain⟨v0,v1,v2,rfl⟩:∃x0 x1 x2,vs=[x0,x1,x2]:=by
    match vs,(by simpa using hv:vs.length=3) with
    |[a,b,c],_=>exact⟨a,b,c,rfl⟩
   obtain⟨ba,off,rfl,_⟩:=hat.cell (by simp)
   simp only[lA,List.length_cons] at hlen
   exact aNd w0.heap.size q w0 rfl n s ba off c v0 v1 v2 (cgX x0) (cgX x1) (cgX x2) hat (hs 0 _ _ rfl rfl) (hs 1 _ _ rfl rfl) (hs 2 _ _ rfl rfl) l _ _ _ rfl rfl rfl w hb hW (by simp only[jX [x0,x1,x2] 0 x0 rfl,jX [x0,x1,x2] 1 x1 rfl,jX [x0,x1,x2] 2 x2 rfl] at hlen;omega)
  rw[aJw k n s xs _ h9 h10] at hlen ⊢
  simp only[lA,List.length_singleton] at hlen
  refine aIw w0.heap.size q w0 rfl k n ?_ s A c _ vs xs rfl hv hat hq hs l w hb hW (by omega)
  unfold qD at hok
  simp at hok
  omega
theorem tZ {x:Ex} (h:Gen 5 false x) (hl:(aM x).length≤2000) (S:Nat→Prop) (v:EV) (w:World) (G:Gl w) (hat:bB S w x v):
 Calls Tryz.prog 14 #[v.v] w fun e w'=>∃A c,e=.returned (.tuple #[.slice A (cgX x 0).length c,.int .i64 0])∧dI.Own 197 w' w.heap.size A c (cgX x 0)∧Below w.heap.size w w':=by
 have hlen:=aJv 5 false x h 0
 have HR:Hid (∀W,Below w.heap.size w W→Calls Tryz.prog 44 #[v.v] W (Ret (.bool true) W)):=Hd (fun W hW=>uO h hl S v W (G.below hW) (hat.onBelow hW))
 have HOP:=Hd (fun W=>aLv W)
 have HCG:Hid (∀W,Below w.heap.size w W→Calls Tryz.prog 46 #[.pointer (some ⟨W.heap.size+1,0,none⟩),v.v] ((W.alloc (.map opE 10)).alloc (.cells #[.slice none 0 0,.map (some W.heap.size)] 100)) fun e w'=>e=.returned (.tuple #[])∧WrB (W.heap.size+1) W.heap.size (cgX x 0) w'∧cF (W.heap.size+1) ((W.alloc (.map opE 10)).alloc (.cells #[.slice none 0 0,.map (some W.heap.size)] 100)) w'):=Hd (fun W hW=>by
  have hb:Below (W.alloc (.map opE 10)).heap.size (W.alloc (.map opE 10)) ((W.alloc (.map opE 10)).alloc (.cells #[.slice none 0 0,.map (some W.heap.size)] 100)):=aB bR _
  have hb2:Below w.heap.size w (W.alloc (.map opE 10)):=aB hW _
  have:=aN2 5 false x h W.heap.size (W.alloc (.map opE 10)) S v (aN W _) (hat.onBelow hb2) [] _ hb ⟨none,0,aN (W.alloc (.map opE 10)) _,En.Own.none_ _ _ _⟩ (by simp only[List.nil_append,List.length_nil];omega)
  rw[sz1] at this
  exact this)
 generalize cgX x 0=L at HCG
 obtain⟨k,n,s,A,m,c'⟩:=v
 unfold EV.v at *
 clear hat G hl h hlen
 go_enter Tryz.func14,Tryz.ntmps14
 go_wp2_with (first
  |(go_at_call 44;go_must (refine rC w (HR.out _ blw) ?_;intro W1 hb HB1;(obtain⟨⟨kc1_0_0,kc1_0_1,kc1_0_2,kc1_0_3⟩,kl1_0,kf1_0⟩:=kb4 hb (w.heap.size) (.int .i64 k) (.int .i64 n) (.string s) (.slice A m c'));clear hb))
  |(go_at_call 45;go_must (refine(HOP.out _).mono ?_;rintro e W2 ⟨rfl,rfl⟩))
  |(go_at_call 46;go_must (refine(HCG.out W1 HB1.out).mono ?_;rintro e W3 ⟨rfl,hw,hk⟩;obtain⟨A3,c3,hk3,ho3⟩:=hw;have d0:W3.cell? ⟨W1.heap.size+1,0,none⟩=some (.slice A3 L.length c3):=aA hk3 0;have HO3:=Hd ho3;have HK3:=Hd hk;clear hk hk3 ho3)))
 go_ret2
 have h1:=HB1.out.size
 have b1:Below w.heap.size w ((W1.alloc (.map opE 10)).alloc (.cells #[.slice none 0 0,.map (some W1.heap.size)] 100)):=aB (aB HB1.out _) _
 exact⟨A3,c3,rfl,HO3.out.lower (by omega),b1.trans (aP HK3.out.below (by omega))⟩
end Go.Proofs.YtlibhkkckgkkkaaGreatDoor.Tf
namespace Go.Proofs.YtlibhkkckgkkkaaGreatDoor.Tf
open Go.RowKit Go.Proofs.YtlibhkkckgkkkaaGreatDoor.Mem Go.Proofs.YtlibhkkckgkkkaaGreatDoor.Boo Go.Proofs.Tryz
def qG (W:World) (r:Nat) (es:Array MapEntry) (clk:Nat):World:={W with heap:=W.heap.setIfInBounds r (.map es clk)}
theorem qP {W:World} {r clk:Nat} {es es':Array MapEntry} {clk':Nat} (h:W.heap[r]?=some (.map es clk)):(qG W r es' clk').heap[r]?=some (.map es' clk'):=(MapKept.heap_set h).1
theorem eD (W:World) (r:Nat) (es:Array MapEntry) (clk k:Nat) (h:k≠r):(qG W r es clk).heap[k]?=W.heap[k]?:=by
 show(W.heap.setIfInBounds r _)[k]?=_
 simp[Ne.symm h]
theorem lF {B:Nat} {w W:World} (h:Below B w W) {r:Nat} (hr:B≤r) (es:Array MapEntry) (clk:Nat):Below B w (qG W r es clk):=
 ⟨h.os,h.tape,h.output,by show _≤(W.heap.setIfInBounds r _).size;simp;exact h.size,fun i hi=>(eD W r es clk i (by omega)).trans (h.block i hi)⟩
theorem aB4 {d:TypeDesc} {k:Value} (hk:MapKept.IsKey d k) {l:List MapEntry} (h:∀x∈l,MapKept.IsKey d x.key) (hn:∀x∈l,x.key≠k):Instr.findNow d k l 0=some none:=by
 rcases MapKept.findNow_spec hk l 0 h with⟨h1,_⟩|⟨j,e,_,h2,h3⟩
 ·exact h1
 ·exact absurd h3 (hn e (List.mem_of_getElem? h2))
theorem aBz {P:Program} {w:World} {t kt et:TypeId} {d:TypeDesc} {z:Value} (ht:P.underlying t=some (.map kt et)) (hk:P.underlying kt=some d) {r clk:Nat} {es:Array MapEntry} (hb:w.heap[r]?=some (.map es clk)) (k:Value) (hkk:MapKept.IsKey d k)
 (h:∀x∈es.toList,MapKept.IsKey d x.key) (hn:∀x∈es.toList,x.key≠k) (hz:(zeroValue et).run P w=.ok z w) (c:Bool):
 (Instr.lookup t (.map (some r)) k c).run P w=.ok (if c then .tuple #[z,.bool false] else z) w:=by
 have hf:=MapKept.run_findKey (w:=w) hk (aB4 hkk h hn)
 simp only[Instr.lookup,Sem.run_bind,run_underlying ht,Result.andThen,MapKept.run_getObj_map hb,MapKept.run_checkKey hk hkk,hf,Sem.run_pure,hz]
theorem aO5 {P:Program} {w:World} {t kt et:TypeId} {d:TypeDesc} (ht:P.underlying t=some (.map kt et)) (hk:P.underlying kt=some d) {r clk:Nat} {es:Array MapEntry} (hb:w.heap[r]?=some (.map es clk)) (k v:Value) (hkk:MapKept.IsKey d k)
 (h:∀x∈es.toList,MapKept.IsKey d x.key) (hn:∀x∈es.toList,x.key≠k):
 (Instr.mapUpdate t (.map (some r)) k v).run P w=.ok () (qG w r (es.push {key:=k,val:=v,born:=clk}) (clk+1)):=by
 have hf:=MapKept.run_findKey (w:=w) hk (aB4 hkk h hn)
 simp only[Instr.mapUpdate,Sem.run_bind,run_underlying ht,Result.andThen,MapKept.run_getObj_map hb,MapKept.run_checkKey hk hkk,hf,MapKept.run_setObj_map _ hb]
 rfl
theorem aMm {P:Program} {w:World} {t kt et ty:TypeId} (ht:P.underlying t=some (.map kt et)) {r clk:Nat} {es:Array MapEntry} (hb:w.heap[r]?=some (.map es clk)):(Builtin.len_ #[t] ty #[.map (some r)]).run P w=.ok (.int .i64 es.size) w:=by
 simp[Builtin.len_,run_underlying ht,MapKept.run_getObj_map hb,Result.andThen,goInt]
theorem lG {w:World} {A:Option Addr} {c:Nat} {xs:List aW} (h:dF.At w A c xs) (k:Nat) (x:aW) (hx:xs[k]?=some x):
 ∃b off,A=some ⟨b,off,none⟩∧b<w.heap.size∧w.cell? ⟨b,off+k * 2,none⟩=some (.string x.s)∧w.cell? ⟨b,off+k * 2+1,none⟩=some (.int .i64 x.p):=by
 obtain⟨b,off,hA,hlt,hc⟩:=h.get k x hx
 exact⟨b,off,hA,hlt,hc 0 (by decide),hc 1 (by decide)⟩
structure iY (L:List aW):Prop where
 len:L.length≤8
 name:∀o∈L,aZ o.s=true
 price:∀o∈L,1≤o.p∧o.p≤1000000000000
 nodup:(L.map (·.s)).Nodup
theorem aQ3 (w:World):(zeroValue 3).run prog w=.ok (.int .i64 0) w:=by kernel_rfl
theorem tF {L:List aW} (h:(L.map (·.s)).Nodup) {i:Nat} {x:aW} (hx:L[i]?=some x):∀y∈L.take i,y.s≠x.s:=by
 intro y hy e
 obtain⟨j,hj,hjy⟩:=List.mem_take_iff_getElem.1 hy
 have hjl:j<L.length:=by omega
 have hil:i<L.length:=(List.getElem?_eq_some_iff.1 hx).1
 have hji:j≠i:=by omega
 have h1:(L.map (·.s))[j]'(by simpa using hjl)=(L.map (·.s))[i]'(by simpa using hil):=by
  rw[List.getElem_map,List.getElem_map,hjy,e,(List.getElem?_eq_some_iff.1 hx).2]
 exact hji ((List.getElem_inj h).1 h1)
theorem tK (L:List aW) (hL:iY L) (A:Option Addr) (c n:Nat) (hn:L.length=n) (w:World) (h:dF.At w A c L):Calls prog 98 #[.slice A n c] w (Ret (.bool true) w):=by
 have hmk:∀W,(Instr.makeMap 279 none).run prog W=.ok (.map (some W.heap.size)) (W.alloc (.map #[] 0)):=fun W=>by kernel_rfl
 have HL:=Hd hL
 have H:=Hd h
 have HN:=Hd hn
 have HC:Hid (n≤8∧n≤c∧c≤9223372036854775807):=Hd ⟨by have:=hL.len;omega,by have:=h.le;omega,h.max⟩
 clear hL h hn
 go_enter func98,ntmps98
 go_wp2_with fail
 go_loopw [9] (fun iv wr=>∃(i:Nat) (es:Array MapEntry),i≤n∧iv=.int .i64 i∧Hid (Below w.heap.size w wr)∧Hid (wr.heap[w.heap.size]?=some (.map es i))∧Hid (es.toList.map (·.key)=(L.take i).map (fun o=>Value.string o.s))) (fun iv _=>n-(intOf iv).toNat)
 case atStart=>exact⟨0,#[],Nat.zero_le _,rfl,Hd (aB bR _),Hd (aN w _),Hd rfl⟩
 case round=>
  obtain⟨i,es,hin,rfl,HB,HE,HK⟩:=hrel
  by_cases hlt:i<n
  ·have hx:L[i]?=some (L[i]'(by have:=HN.out;omega)):=gE _
   obtain⟨b,off,rfl,hbl,c0,c1⟩:=lG (H.out.below HB.out) i _ hx
   have hmem:L[i]'(by have:=HN.out;omega)∈L:=List.getElem_mem _
   have hnm:=HL.out.name _ hmem
   have hpr:=HL.out.price _ hmem
   have hks:=tF HL.out.nodup hx
   have hst:(L.take (i+1)).map (fun o=>Value.string o.s)=(L.take i).map (fun o=>Value.string o.s)++[.string (L[i]'(by have:=HN.out;omega)).s]:=by rw[List.take_add_one,hx,List.map_append];rfl
   generalize L[i]'(by have:=HN.out;omega)=x at c0 c1 hx hnm hpr hks hst
   obtain⟨xs,xp⟩:=x
   dsimp only at c0 c1 hnm hpr hks hst
   have hkey:∀e∈es.toList,MapKept.IsKey .string e.key∧e.key≠.string xs:=fun e he=>by
    have hm:e.key∈es.toList.map (·.key):=List.mem_map_of_mem he
    rw[HK.out] at hm
    obtain⟨o,ho,he2⟩:=List.mem_map.1 hm
    rw[←he2]
    exact⟨trivial,fun e3=>by injection e3 with e3;exact hks o ho e3⟩
   have HKY:=Hd hkey
   have HST:=Hd hst
   have HNA:Hid (∀W,Calls prog 60 #[.string xs] W (Ret (.bool true) W)):=Hd (fun W=>by
    have:=eB xs W (by unfold aZ at hnm;simp at hnm;omega)
    rwa [hnm] at this)
   have HZI:Hid (wrap64 ((i:Int)+1)=((i+1:Nat):Int)):=Hd (by rw[Mem.w64 (by omega) (by have:=HC.out;omega)];omega)
   have zlt:(i:Int)<(n:Int):=by omega
   have zp1:¬xp<1:=by omega
   have zp2:¬(1000000000000:Int)<xp:=by omega
   have HLT:=Hd hlt
   clear hx hmem hnm hpr hks hst hkey hlt
   go_wp2_with (go_at_call 60;go_must (refine rC w (HNA.out _) ?_;intro W2 hb HB2;have hE2:=(hb.block w.heap.size (by have:=(gLt HE.out);simp;omega)).trans ((Below.heap_alloc wr _ _ (gLt HE.out)).trans HE.out);have HE2:=Hd hE2;(obtain⟨⟨kc1_0_0,kc1_0_1⟩,kl1_0,kf1_0⟩:=kb2 hb (wr.heap.size) (.string xs) (.int .i64 xp));have hlk:=aBz (P:=prog) underlying279 underlying9 hE2 (.string xs) trivial (fun e he=>(HKY.out e he).1) (fun e he=>(HKY.out e he).2) (aQ3 W2) false;have hup:=aO5 (P:=prog) underlying279 underlying9 hE2 (.string xs) (.int .i64 1) trivial (fun e he=>(HKY.out e he).1) (fun e he=>(HKY.out e he).2);clear hb hE2))
   go_roundw
   case rel=>exact⟨i+1,es.push ⟨.string xs,.int .i64 1,i⟩,HLT.out,(by first|rw[HZI.out]|rfl|simp),Hd (lF HB2.out nR _ _),Hd (qP HE2.out),Hd (by rw[Array.toList_push,List.map_append,HK.out,HST.out];rfl)⟩
   case measure=>have:=HLT.out;(try rw[HZI.out]);simp[intOf];omega
  ·obtain rfl:i=n:=by omega
   have hsz:es.size=i:=by
    have:=congrArg List.length HK.out
    simp only[List.length_map,List.length_take,Array.length_toList,HN.out,Nat.min_self] at this
    exact this
   have z8:(i:Int)≤8:=by have:=HC.out;omega
   clear hlt
   have hln:=aMm (P:=prog) (ty:=3) underlying279 HE.out
   rw[hsz] at hln
   go_wp2_with fail
   go_ret
   exact⟨rfl,HB.out⟩
end Go.Proofs.YtlibhkkckgkkkaaGreatDoor.Tf
