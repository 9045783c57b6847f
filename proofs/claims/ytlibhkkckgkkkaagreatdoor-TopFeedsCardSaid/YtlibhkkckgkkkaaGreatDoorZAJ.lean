/- Part of the proof of TopFeeds: OutB2 OutC OutC2 OutD MarA OutE OutI. -/
import Derived.Test.YtlibhkkckgkkkaaGreatDoorZAI
import Derived.StillTailTactics
set_option maxHeartbeats 1000000
set_option maxRecDepth 100000
namespace Go.Proofs.YtlibhkkckgkkkaaGreatDoor.Out
open Go.RowKit Go.Proofs.YtlibhkkckgkkkaaGreatDoor.Mem Go.Proofs.Tryz
theorem aK2 (v p n s now u q:Int) (w:World) (HT:Hid (∀W,Calls prog 147 #[.int .i64 now] W fun e w'=>e=.returned (.int .i64 u)∧W=w')) (HL:Hid (∀W,Calls prog 68 #[.int .i64 u,.int .i64 2] W fun e w'=>e=.returned (.int .i64 q)∧W=w')):
 Calls prog 151 #[.agg #[.int .i64 v,.int .i64 p,.int .i64 0,.int .i64 n,.int .i64 s],.int .i64 now] w (Ret (.agg #[.int .i64 v,.int .i64 p,.int .i64 1,.int .i64 q,.int .i64 s]) w):=by
 have hwr:IntKind.i64.wrap 2=2:=by rw[IntKind.wrap_i64];omega
 go_enter func151,ntmps151
 go_wp2_with fail
 refine wp_region_still_tail 9 (by kernel_rfl) (by kernel_rfl) ?_
 simp only[List.take_succ_cons,List.take_zero,List.drop_succ_cons,List.drop_zero]
 change wpStill prog _ (((w.alloc (.cells #[.int .i64 v,.int .i64 p,.int .i64 1,.int .i64 n,.int .i64 s] 145)).alloc (.cells #[.int .i64 0,.int .i64 0,.int .i64 0,.int .i64 0,.int .i64 0] 145)).drew) _ _ _
 still_step
 still_call ((HT.out _).mono fun _ _ h=>⟨h.1,h.2.symm⟩)
 still_step
 still_step
 still_step
 still_step
 still_step
 still_call ((HL.out _).mono fun _ _ h=>⟨h.1,h.2.symm⟩)
 still_step
 refine wpStill_nil ?_
 change wpList prog _ _ _ _ (((w.alloc (.cells #[.int .i64 v,.int .i64 p,.int .i64 1,.int .i64 n,.int .i64 s] 145)).alloc (.cells #[.int .i64 0,.int .i64 0,.int .i64 0,.int .i64 0,.int .i64 0] 145)).drew)
 clear hwr
 go_wp2_with fail
 refine bodyPost_ret (v:=.agg #[.int .i64 v,.int .i64 p,.int .i64 1,.int .i64 q,.int .i64 s]) (by simp[results,results151,go_sem]) rfl ⟨rfl,?_⟩
 exact aL (aB (aB bR _) _) 1
theorem aK1 (v p n s now u q:Int) (w:World) (HT:Hid (∀W,Calls prog 147 #[.int .i64 now] W fun e w'=>e=.returned (.int .i64 u)∧W=w')) (HL:Hid (∀W,Calls prog 68 #[.int .i64 u,.int .i64 4] W fun e w'=>e=.returned (.int .i64 q)∧W=w')):
 Calls prog 151 #[.agg #[.int .i64 v,.int .i64 p,.int .i64 1,.int .i64 n,.int .i64 s],.int .i64 now] w (Ret (.agg #[.int .i64 v,.int .i64 p,.int .i64 2,.int .i64 q,.int .i64 s]) w):=by
 have hwr:IntKind.i64.wrap 4=4:=by rw[IntKind.wrap_i64];omega
 go_enter func151,ntmps151
 go_wp2_with fail
 refine wp_region_still_tail 9 (by kernel_rfl) (by kernel_rfl) ?_
 simp only[List.take_succ_cons,List.take_zero,List.drop_succ_cons,List.drop_zero]
 change wpStill prog _ (((w.alloc (.cells #[.int .i64 v,.int .i64 p,.int .i64 2,.int .i64 n,.int .i64 s] 145)).alloc (.cells #[.int .i64 0,.int .i64 0,.int .i64 0,.int .i64 0,.int .i64 0] 145)).drew) _ _ _
 still_step
 still_call ((HT.out _).mono fun _ _ h=>⟨h.1,h.2.symm⟩)
 still_step
 still_step
 still_step
 still_step
 still_step
 still_call ((HL.out _).mono fun _ _ h=>⟨h.1,h.2.symm⟩)
 still_step
 refine wpStill_nil ?_
 change wpList prog _ _ _ _ (((w.alloc (.cells #[.int .i64 v,.int .i64 p,.int .i64 2,.int .i64 n,.int .i64 s] 145)).alloc (.cells #[.int .i64 0,.int .i64 0,.int .i64 0,.int .i64 0,.int .i64 0] 145)).drew)
 clear hwr
 go_wp2_with fail
 refine bodyPost_ret (v:=.agg #[.int .i64 v,.int .i64 p,.int .i64 2,.int .i64 q,.int .i64 s]) (by simp[results,results151,go_sem]) rfl ⟨rfl,?_⟩
 exact aL (aB (aB bR _) _) 1
theorem aK0 (v p n s now u q:Int) (w:World) (HT:Hid (∀W,Calls prog 147 #[.int .i64 now] W fun e w'=>e=.returned (.int .i64 u)∧W=w')) (HL:Hid (∀W,Calls prog 68 #[.int .i64 u,.int .i64 8] W fun e w'=>e=.returned (.int .i64 q)∧W=w')):
 Calls prog 151 #[.agg #[.int .i64 v,.int .i64 p,.int .i64 2,.int .i64 n,.int .i64 s],.int .i64 now] w (Ret (.agg #[.int .i64 v,.int .i64 p,.int .i64 3,.int .i64 q,.int .i64 s]) w):=by
 have hwr:IntKind.i64.wrap 8=8:=by rw[IntKind.wrap_i64];omega
 go_enter func151,ntmps151
 go_wp2_with fail
 refine wp_region_still_tail 9 (by kernel_rfl) (by kernel_rfl) ?_
 simp only[List.take_succ_cons,List.take_zero,List.drop_succ_cons,List.drop_zero]
 change wpStill prog _ (((w.alloc (.cells #[.int .i64 v,.int .i64 p,.int .i64 3,.int .i64 n,.int .i64 s] 145)).alloc (.cells #[.int .i64 0,.int .i64 0,.int .i64 0,.int .i64 0,.int .i64 0] 145)).drew) _ _ _
 still_step
 still_call ((HT.out _).mono fun _ _ h=>⟨h.1,h.2.symm⟩)
 still_step
 still_step
 still_step
 still_step
 still_step
 still_call ((HL.out _).mono fun _ _ h=>⟨h.1,h.2.symm⟩)
 still_step
 refine wpStill_nil ?_
 change wpList prog _ _ _ _ (((w.alloc (.cells #[.int .i64 v,.int .i64 p,.int .i64 3,.int .i64 n,.int .i64 s] 145)).alloc (.cells #[.int .i64 0,.int .i64 0,.int .i64 0,.int .i64 0,.int .i64 0] 145)).drew)
 clear hwr
 go_wp2_with fail
 refine bodyPost_ret (v:=.agg #[.int .i64 v,.int .i64 p,.int .i64 3,.int .i64 q,.int .i64 s]) (by simp[results,results151,go_sem]) rfl ⟨rfl,?_⟩
 exact aL (aB (aB bR _) _) 1
theorem aKz (v p n s now u q:Int) (w:World) (HT:Hid (∀W,Calls prog 147 #[.int .i64 now] W fun e w'=>e=.returned (.int .i64 u)∧W=w')) (HL:Hid (∀W,Calls prog 68 #[.int .i64 u,.int .i64 16] W fun e w'=>e=.returned (.int .i64 q)∧W=w')):
 Calls prog 151 #[.agg #[.int .i64 v,.int .i64 p,.int .i64 3,.int .i64 n,.int .i64 s],.int .i64 now] w (Ret (.agg #[.int .i64 v,.int .i64 p,.int .i64 4,.int .i64 q,.int .i64 s]) w):=by
 have hwr:IntKind.i64.wrap 16=16:=by rw[IntKind.wrap_i64];omega
 go_enter func151,ntmps151
 go_wp2_with fail
 refine wp_region_still_tail 9 (by kernel_rfl) (by kernel_rfl) ?_
 simp only[List.take_succ_cons,List.take_zero,List.drop_succ_cons,List.drop_zero]
 change wpStill prog _ (((w.alloc (.cells #[.int .i64 v,.int .i64 p,.int .i64 4,.int .i64 n,.int .i64 s] 145)).alloc (.cells #[.int .i64 0,.int .i64 0,.int .i64 0,.int .i64 0,.int .i64 0] 145)).drew) _ _ _
 still_step
 still_call ((HT.out _).mono fun _ _ h=>⟨h.1,h.2.symm⟩)
 still_step
 still_step
 still_step
 still_step
 still_step
 still_call ((HL.out _).mono fun _ _ h=>⟨h.1,h.2.symm⟩)
 still_step
 refine wpStill_nil ?_
 change wpList prog _ _ _ _ (((w.alloc (.cells #[.int .i64 v,.int .i64 p,.int .i64 4,.int .i64 n,.int .i64 s] 145)).alloc (.cells #[.int .i64 0,.int .i64 0,.int .i64 0,.int .i64 0,.int .i64 0] 145)).drew)
 clear hwr
 go_wp2_with fail
 refine bodyPost_ret (v:=.agg #[.int .i64 v,.int .i64 p,.int .i64 4,.int .i64 q,.int .i64 s]) (by simp[results,results151,go_sem]) rfl ⟨rfl,?_⟩
 exact aL (aB (aB bR _) _) 1
theorem aKy (v p n s now u q:Int) (w:World) (HT:Hid (∀W,Calls prog 147 #[.int .i64 now] W fun e w'=>e=.returned (.int .i64 u)∧W=w')) (HL:Hid (∀W,Calls prog 68 #[.int .i64 u,.int .i64 32] W fun e w'=>e=.returned (.int .i64 q)∧W=w')):
 Calls prog 151 #[.agg #[.int .i64 v,.int .i64 p,.int .i64 4,.int .i64 n,.int .i64 s],.int .i64 now] w (Ret (.agg #[.int .i64 v,.int .i64 p,.int .i64 5,.int .i64 q,.int .i64 s]) w):=by
 have hwr:IntKind.i64.wrap 32=32:=by rw[IntKind.wrap_i64];omega
 go_enter func151,ntmps151
 go_wp2_with fail
 refine wp_region_still_tail 9 (by kernel_rfl) (by kernel_rfl) ?_
 simp only[List.take_succ_cons,List.take_zero,List.drop_succ_cons,List.drop_zero]
 change wpStill prog _ (((w.alloc (.cells #[.int .i64 v,.int .i64 p,.int .i64 5,.int .i64 n,.int .i64 s] 145)).alloc (.cells #[.int .i64 0,.int .i64 0,.int .i64 0,.int .i64 0,.int .i64 0] 145)).drew) _ _ _
 still_step
 still_call ((HT.out _).mono fun _ _ h=>⟨h.1,h.2.symm⟩)
 still_step
 still_step
 still_step
 still_step
 still_step
 still_call ((HL.out _).mono fun _ _ h=>⟨h.1,h.2.symm⟩)
 still_step
 refine wpStill_nil ?_
 change wpList prog _ _ _ _ (((w.alloc (.cells #[.int .i64 v,.int .i64 p,.int .i64 5,.int .i64 n,.int .i64 s] 145)).alloc (.cells #[.int .i64 0,.int .i64 0,.int .i64 0,.int .i64 0,.int .i64 0] 145)).drew)
 clear hwr
 go_wp2_with fail
 refine bodyPost_ret (v:=.agg #[.int .i64 v,.int .i64 p,.int .i64 5,.int .i64 q,.int .i64 s]) (by simp[results,results151,go_sem]) rfl ⟨rfl,?_⟩
 exact aL (aB (aB bR _) _) 1
theorem yL (x:bH) (now:Int) (w:World) (h0:0≤x.t) (h4:x.t≤4):Calls prog 151 #[x.val,.int .i64 now] w (Ret (mT x now).val w):=by
 obtain⟨v,p,t,n,s⟩:=x
 have h0':0≤t:=h0
 have h4':t≤4:=h4
 have hc:t=0∨t=1∨t=2∨t=3∨t=4:=by omega
 rcases hc with rfl|rfl|rfl|rfl|rfl
 ·exact aK2 v p n s now _ _ w (fun W=>iR now W) (fun W=>iL _ 2 W)
 ·exact aK1 v p n s now _ _ w (fun W=>iR now W) (fun W=>iL _ 4 W)
 ·exact aK0 v p n s now _ _ w (fun W=>iR now W) (fun W=>iL _ 8 W)
 ·exact aKz v p n s now _ _ w (fun W=>iR now W) (fun W=>iL _ 16 W)
 ·exact aKy v p n s now _ _ w (fun W=>iR now W) (fun W=>iL _ 32 W)
theorem aCv (x:bH) (now:Int) (w:World) (h0:0≤x.t):Calls prog 151 #[x.val,.int .i64 now] w (Ret (mT x now).val w):=by
 by_cases h:5≤x.t
 ·exact yM x now w h
 ·exact yL x now w h0 (by omega)
def At1 (w:World) (B:Nat) (n:Int):Prop:=w.cell? ⟨B,0,none⟩=some (.int .i64 n)
theorem At1.below {w w':World} {B:Nat} {n:Int} (h:At1 w B n) (hb:Below w.heap.size w w'):At1 w' B n:=aC hb h
theorem At1.lt {w:World} {B:Nat} {n:Int} (h:At1 w B n):B<w.heap.size:=bL w _ h
theorem aM0 (x:bH) (p:Int) (B:Nat) (w:World) (h:At1 w B p) (h1:1≤p) (h2:p≤1000000000000):Calls prog 145 #[x.val,.pointer (some ⟨B,0,none⟩)] w (Ret (.bool true) w):=by
 obtain⟨v,p',t,n,s⟩:=x
 have hlt:=h.lt
 have hne:B≠w.heap.size:=by omega
 have hc:w.cell? ⟨B,0,none⟩=some (.int .i64 p):=h
 clear h
 show Calls prog 145 #[.agg #[.int .i64 v,.int .i64 p',.int .i64 t,.int .i64 n,.int .i64 s],_] w _
 go_enter func145,ntmps145
 go_wp2
 go_ret
 exact⟨rfl,aB bR _⟩
theorem aMz (x:bH) (p now:Int) (B C:Nat) (w:World) (h:At1 w B p) (h':At1 w C now) (h1:0≤x.v) (h2:x.v≤1000000):Calls prog 146 #[x.val,.pointer (some ⟨B,0,none⟩),.pointer (some ⟨C,0,none⟩)] w (Ret (jV x p now).val w):=by
 obtain⟨v,p',t,n,s⟩:=x
 have h1':0≤v:=h1
 have h2':v≤1000000:=h2
 have hlt:=h.lt
 have hlt':=h'.lt
 have hne:B≠w.heap.size:=by omega
 have hne2:B≠w.heap.size+1:=by omega
 have hne3:C≠w.heap.size:=by omega
 have hne4:C≠w.heap.size+1:=by omega
 have hc:w.cell? ⟨B,0,none⟩=some (.int .i64 p):=h
 have hc':w.cell? ⟨C,0,none⟩=some (.int .i64 now):=h'
 clear h h' h1 h2
 have hwr:IntKind.i64.wrap (v+1)=v+1:=IntWalk.i64_in _ (by omega)
 have HT:=Hd (fun W=>iR now W)
 show Calls prog 146 #[.agg #[.int .i64 v,.int .i64 p',.int .i64 t,.int .i64 n,.int .i64 s],_,_] w (Ret (.agg #[.int .i64 (v+1),.int .i64 p,.int .i64 0,.int .i64 (cD now),.int .i64 1]) w)
 generalize cD now=u at HT
 go_enter func146,ntmps146
 go_wp2_with fail
 refine wp_region_still_tail 7 (by kernel_rfl) (by kernel_rfl) ?_
 simp only[List.take_succ_cons,List.take_zero,List.drop_succ_cons,List.drop_zero]
 change wpStill prog _ (((w.alloc (.cells #[.int .i64 v,.int .i64 p',.int .i64 t,.int .i64 n,.int .i64 s] 145)).alloc (.cells #[.int .i64 0,.int .i64 0,.int .i64 0,.int .i64 0,.int .i64 0] 145)).drew) _ _ _
 still_step
 still_step
 still_step
 still_step
 still_step
 still_call ((HT.out _).mono fun _ _ h=>⟨h.1,h.2.symm⟩)
 still_step
 refine wpStill_nil ?_
 change wpList prog _ _ _ _ (((w.alloc (.cells #[.int .i64 v,.int .i64 p',.int .i64 t,.int .i64 n,.int .i64 s] 145)).alloc (.cells #[.int .i64 0,.int .i64 0,.int .i64 0,.int .i64 0,.int .i64 0] 145)).drew)
 clear hwr
 go_wp2_with fail
 refine bodyPost_ret (v:=.agg #[.int .i64 (v+1),.int .i64 p,.int .i64 0,.int .i64 u,.int .i64 1]) (by simp[results,results146,go_sem]) rfl ⟨rfl,?_⟩
 exact aL (aB (aB bR _) _) 1
theorem aC8 (x:bH) (now:Int) (B:Nat) (w:World) (h:At1 w B now) (b:Bool) (hb:pN x now=b):Calls prog 149 #[x.val,.pointer (some ⟨B,0,none⟩)] w (Ret (.bool b) w):=by
 have HD:=Hd (fun W=>aB7 x now W)
 rw[hb] at HD
 obtain⟨v,p',t,n,s⟩:=x
 have hlt:=h.lt
 have hne:B≠w.heap.size:=by omega
 have hc:w.cell? ⟨B,0,none⟩=some (.int .i64 now):=h
 clear h hb
 have HD2:Hid (∀W,Calls prog 148 #[.agg #[.int .i64 v,.int .i64 p',.int .i64 t,.int .i64 n,.int .i64 s],.int .i64 now] W (Ret (.bool b) W)):=HD
 clear HD
 show Calls prog 149 #[.agg #[.int .i64 v,.int .i64 p',.int .i64 t,.int .i64 n,.int .i64 s],_] w _
 go_enter func149,ntmps149
 go_wp2_with (go_at_call 148;refine(HD2.out _).mono ?_;rintro e w1 ⟨rfl,hbel⟩;have HB:=Hd hbel;clear hbel)
 go_ret
 exact⟨rfl,aD (aB bR _) HB.out⟩
theorem aC7 (x:bH) (now:Int) (B:Nat) (w:World) (h:At1 w B now) (h0:0≤x.t) (y:bH) (hy:mT x now=y):Calls prog 150 #[x.val,.pointer (some ⟨B,0,none⟩)] w (Ret y.val w):=by
 have HD:=Hd (fun W=>aCv x now W h0)
 rw[hy] at HD
 obtain⟨v,p',t,n,s⟩:=x
 obtain⟨v2,p2,t2,n2,s2⟩:=y
 have hlt:=h.lt
 have hne:B≠w.heap.size:=by omega
 have hne2:B≠w.heap.size+1:=by omega
 have hc:w.cell? ⟨B,0,none⟩=some (.int .i64 now):=h
 clear h hy h0
 have HD2:Hid (∀W,Calls prog 151 #[.agg #[.int .i64 v,.int .i64 p',.int .i64 t,.int .i64 n,.int .i64 s],.int .i64 now] W (Ret (.agg #[.int .i64 v2,.int .i64 p2,.int .i64 t2,.int .i64 n2,.int .i64 s2]) W)):=HD
 clear HD
 show Calls prog 150 #[.agg #[.int .i64 v,.int .i64 p',.int .i64 t,.int .i64 n,.int .i64 s],_] w (Ret (.agg #[.int .i64 v2,.int .i64 p2,.int .i64 t2,.int .i64 n2,.int .i64 s2]) w)
 go_enter func150,ntmps150
 go_wp2_with (go_at_call 151;refine(HD2.out _).mono ?_;rintro e w1 ⟨rfl,hbel⟩;obtain⟨hc1,hf1,hz1⟩:=rT hbel;have HB:=Hd hbel;clear hbel)
 refine bodyPost_ret (v:=.agg #[.int .i64 v2,.int .i64 p2,.int .i64 t2,.int .i64 n2,.int .i64 s2]) (by simp[results,results150,go_sem,hc1]) rfl ⟨rfl,?_⟩
 exact aH (aH (aH (aH (aH (aD (aB (aB bR _) _) HB.out) (by simp) _) (by simp) _) (by simp) _) (by simp) _) (by simp) _
theorem yT (x:bH) (k:Int) (B:Nat) (w:World) (h:At1 w B k):Calls prog 227 #[x.val,.pointer (some ⟨B,0,none⟩)] w (Ret (rG x k).val w):=by
 obtain⟨v,p',t,n,s⟩:=x
 have hlt:=h.lt
 have hne:B≠w.heap.size:=by omega
 have hne2:B≠w.heap.size+1:=by omega
 have hc:w.cell? ⟨B,0,none⟩=some (.int .i64 k):=h
 clear h
 show Calls prog 227 #[.agg #[.int .i64 v,.int .i64 p',.int .i64 t,.int .i64 n,.int .i64 s],_] w (Ret (.agg #[.int .i64 v,.int .i64 p',.int .i64 t,.int .i64 n,.int .i64 k]) w)
 go_enter func227,ntmps227
 go_wp2
 refine bodyPost_ret (v:=.agg #[.int .i64 v,.int .i64 p',.int .i64 t,.int .i64 n,.int .i64 k]) (by simp[results,results227,go_sem]) rfl ⟨rfl,?_⟩
 exact aB (aB bR _) _
def ackB (x:bH) (ver:Int):Bool:=decide (x.v=ver∧(x.s=1∨x.s=3))
theorem aKm (x:bH) (ver:Int) (B:Nat) (w:World) (h:At1 w B ver) (b:Bool) (hb:ackB x ver=b):Calls prog 152 #[x.val,.pointer (some ⟨B,0,none⟩)] w (Ret (.bool b) w):=by
 obtain⟨v,p',t,n,s⟩:=x
 have hlt:=h.lt
 have hne:B≠w.heap.size:=by omega
 have hc:w.cell? ⟨B,0,none⟩=some (.int .i64 ver):=h
 have hb':decide (v=ver∧(s=1∨s=3))=b:=hb
 clear h hb
 show Calls prog 152 #[.agg #[.int .i64 v,.int .i64 p',.int .i64 t,.int .i64 n,.int .i64 s],_] w _
 by_cases hv:v=ver
 ·subst hv
  by_cases h1:s=1
  ·subst h1
   have e:b=true:=by rw[←hb'];simp
   subst e
   clear hb'
   go_enter func152,ntmps152
   go_wp2
   go_ret
   exact⟨rfl,aB bR _⟩
  ·have g1:(s==1)=false:=by simpa using h1
   have e:(s==3)=b:=by rw[←hb'];by_cases h3:s=3 <;> simp[h1,h3]
   clear hb' h1
   go_enter func152,ntmps152
   go_wp2
   go_ret
   exact⟨rfl,aB bR _⟩
 ·have g1:(v==ver)=false:=by simpa using hv
  have e:b=false:=by rw[←hb'];simp[hv]
  subst e
  clear hb' hv
  go_enter func152,ntmps152
  go_wp2
  go_ret
  exact⟨rfl,aB bR _⟩
theorem aC1 (k:Int) (w:World):Calls prog 153 #[.int .i64 k] w fun e w'=>e=.returned (.func (.func 227) #[] #[.pointer (some ⟨w.heap.size,0,none⟩)])∧w'=w.alloc (.cells #[.int .i64 k] 3):=by
 go_enter func153,ntmps153
 go_wp2
 go_ret
 exact⟨rfl,rfl⟩
theorem aRt:Ent 149:=fun args w=>by simp[callFunc,func149];rfl
theorem aRs:Ent 150:=fun args w=>by simp[callFunc,func150];rfl
theorem aRr:Ent 145:=fun args w=>by simp[callFunc,func145];rfl
theorem aRq:Ent 146:=fun args w=>by simp[callFunc,func146];rfl
theorem aRp:Ent 152:=fun args w=>by simp[callFunc,func152];rfl
theorem aRo:Ent 227:=fun args w=>by simp[callFunc,func227];rfl
def IsB (w:World) (xs:List bH) (n:Nat) (b:Bool) (r:Ending) (w':World):Prop:=∃A c,r=.returned (.tuple #[.slice A n c,.bool b])∧dO.Own 145 w' w.heap.size A c xs∧Below w.heap.size w w'
def IsE (w:World) (xs:List bH) (n:Nat) (k:Int) (r:Ending) (w':World):Prop:=∃A c,r=.returned (.tuple #[.slice A n c,.int .i64 k])∧dO.Own 145 w' w.heap.size A c xs∧Below w.heap.size w w'
def IsS (w:World) (xs:List bH) (n:Nat) (m:dV) (b:Bool) (k:Int) (r:Ending) (w':World):Prop:=∃A c,r=.returned (.tuple #[.slice A n c,.agg #[.int .i64 m.s,.int .i64 m.v,.int .i64 m.p],.bool b,.int .i64 k])∧dO.Own 145 w' w.heap.size A c xs∧Below w.heap.size w w'
theorem app1 (a b:Value):#[a] ++ #[b]=#[a,b]:=rfl
theorem app2 (a b c:Value):#[a] ++ #[b,c]=#[a,b,c]:=rfl
theorem aF7 {xs:List bH} {k:Nat} {x:bH} (hx:xs[k]?=some x):xs.set k x=xs:=by
 obtain⟨hk,rfl⟩:=List.getElem?_eq_some_iff.1 hx
 exact List.set_getElem_self hk
theorem qX (A:Option Addr) (c k n:Nat) (xs:List bH) (hn:xs.length=n) (x y:bH) (b:Bool) (f2 f3:Nat) (K2 K3:Array Value) (w:World) (e2:Ent f2) (e3:Ent f3) (h:dO.At w A c xs) (hb:n * 40≤140737488355328) (hx:xs[k]?=some x)
 (hm:∀W,Below w.heap.size w W→Calls prog f2 (#[x.val]++K2) W (Ret (.bool b) W))
 (hch:b=true→∀W,Below w.heap.size w W→Calls prog f3 (#[x.val]++K3) W (Ret y.val W)) (hy:b=false→y=x):
 Calls prog 144 #[.slice A n c,.int .i64 k,.func (.func f2) #[] K2,.func (.func f3) #[] K3] w (IsB w (xs.set k y) n b):=by
 subst hn
 cases b
 ·rw[hy rfl,aF7 hx]
  exact aKw A c k xs x f2 f3 K2 K3 w e2 h hb hx hm
 ·refine(aFm A c k xs x y f2 f3 K2 K3 w e2 e3 h hb hx hm (hch rfl)).mono fun e w' ⟨A',c',he,ho,hbl⟩=>⟨A',c',?_,ho,hbl⟩
  rw[he,List.length_set]
theorem zU (A:Option Addr) (c k n:Nat) (xs:List bH) (hn:xs.length=n) (x:bH) (p now:Int) (w:World) (h:dO.At w A c xs) (hb:n * 40≤140737488355328) (hx:xs[k]?=some x) (h1:1≤p) (h2:p≤1000000000000) (h3:0≤x.v) (h4:x.v≤1000000):
 Calls prog 73 #[.slice A n c,.int .i64 k,.int .i64 p,.int .i64 now] w (IsE w (xs.set k (jV x p now)) n 0):=by
 have HC:=Hd (fun W K2 K3 hA hm hch=>qX A c k n xs hn x (jV x p now) true 145 146 K2 K3 W aRr aRq hA hb hx hm hch (fun e=>by cases e))
 have H:=Hd h
 have hm1:=Hd (fun W B hB=>aM0 x p B W hB h1 h2)
 have hm2:=Hd (fun W B C hB hC=>aMz x p now B C W hB hC h3 h4)
 generalize jV x p now=y at HC hm2 ⊢
 clear h hx hn h1 h2 h3 h4
 have q0:Hid (At1 ((w.alloc (.cells #[.int .i64 p] 3)).alloc (.cells #[.int .i64 now] 3)) w.heap.size p):=by show World.cell? _ _=_;go_simp
 have q1:Hid (At1 ((w.alloc (.cells #[.int .i64 p] 3)).alloc (.cells #[.int .i64 now] 3)) (w.heap.size+1) now):=by show World.cell? _ _=_;go_simp
 have hbl:Hid (Below w.heap.size w ((w.alloc (.cells #[.int .i64 p] 3)).alloc (.cells #[.int .i64 now] 3))):=aB (aB bR _) _
 have HK:=HC.out _ #[.pointer (some ⟨w.heap.size,0,none⟩)] #[.pointer (some ⟨w.heap.size,0,none⟩),.pointer (some ⟨w.heap.size+1,0,none⟩)] (H.out.below hbl.out) (fun W hW=>by rw[app1];exact hm1.out W _ (q0.out.below hW)) (fun _ W hW=>by rw[app2];exact hm2.out W _ _ (q0.out.below hW) (q1.out.below hW))
 have HK2:=Hd HK
 clear HK
 go_enter func73,ntmps73
 go_wp2_with (go_at_call 144;refine HK2.out.mono ?_;rintro e w1 ⟨A1,c1,rfl,hown,hbel⟩;have HO:=Hd hown;have HB:=Hd hbel;clear hown hbel)
 go_ret2
 exact⟨A1,c1,rfl,HO.out.lower hbl.out.size,aD hbl.out HB.out⟩
theorem aOd (A:Option Addr) (c k n:Nat) (xs:List bH) (hn:xs.length=n) (x:bH) (ver:Int) (b:Bool) (hb':ackB x ver=b) (w:World) (h:dO.At w A c xs) (hb:n * 40≤140737488355328) (hx:xs[k]?=some x):
 Calls prog 79 #[.slice A n c,.int .i64 k,.int .i64 ver] w (IsB w (xs.set k (if b=true then rG x 2 else x)) n b):=by
 have HC:=Hd (fun W K2 K3 hA hm hch=>qX A c k n xs hn x (if b=true then rG x 2 else x) b 152 227 K2 K3 W aRp aRo hA hb hx hm hch (fun e=>by rw[e];rfl))
 have H:=Hd h
 have hm1:=Hd (fun W B hB=>aKm x ver B W hB b hb')
 have hm2:Hid (b=true→∀W B,At1 W B 2→Calls prog 227 #[x.val,.pointer (some ⟨B,0,none⟩)] W (Ret (if b=true then rG x 2 else x).val W)):=fun e W B hB=>by rw[if_pos e];exact yT x 2 B W hB
 generalize (if b=true then rG x 2 else x)=y at HC hm2 ⊢
 clear h hx hn hb'
 have q0:Hid (At1 ((w.alloc (.cells #[.int .i64 ver] 3)).alloc (.cells #[.int .i64 2] 3)) w.heap.size ver):=by show World.cell? _ _=_;go_simp
 have q1:Hid (At1 ((w.alloc (.cells #[.int .i64 ver] 3)).alloc (.cells #[.int .i64 2] 3)) (w.heap.size+1) 2):=by show World.cell? _ _=_;go_simp
 have hbl:Hid (Below w.heap.size w ((w.alloc (.cells #[.int .i64 ver] 3)).alloc (.cells #[.int .i64 2] 3))):=aB (aB bR _) _
 have HK:=HC.out _ #[.pointer (some ⟨w.heap.size,0,none⟩)] #[.pointer (some ⟨w.heap.size+1,0,none⟩)] (H.out.below hbl.out) (fun W hW=>by rw[app1];exact hm1.out W _ (q0.out.below hW)) (fun e W hW=>by rw[app1];exact hm2.out e W _ (q1.out.below hW))
 have HK2:=Hd HK
 clear HK
 go_enter func79,ntmps79
 go_wp2_with (first|(go_at_call 153;refine(aC1 _ _).mono ?_;rintro e w0 ⟨rfl,rfl⟩)|(go_at_call 144;refine HK2.out.mono ?_;rintro e w1 ⟨A1,c1,rfl,hown,hbel⟩;have HO:=Hd hown;have HB:=Hd hbel;clear hown hbel))
 go_ret2
 exact⟨A1,c1,rfl,HO.out.lower hbl.out.size,aD hbl.out HB.out⟩
end Go.Proofs.YtlibhkkckgkkkaaGreatDoor.Out
namespace Go.Proofs.YtlibhkkckgkkkaaGreatDoor.Mar
open Go.RowKit Go.Proofs.YtlibhkkckgkkkaaGreatDoor.Mem Go.Proofs.Tryz
structure iX where
 v:Int
 p:Int
abbrev dV:=Out.dV
def dM:En dV:=⟨fun m=>[.int .i64 m.s,.int .i64 m.v,.int .i64 m.p],3,by omega,fun _=>rfl,fun x u hu=>by simp at hu;rcases hu with rfl|rfl|rfl <;> rfl⟩
def dS:En iX:=⟨fun m=>[.int .i64 m.v,.int .i64 m.p],2,by omega,fun _=>rfl,fun x u hu=>by simp at hu;rcases hu with rfl|rfl <;> rfl⟩
def eV {α:Type} (d:En α) (e:TypeId) (w:World) (xs:List α) (r:Ending) (w':World):Prop:=∃A c,r=.returned (.slice A xs.length c)∧d.Own e w' w.heap.size A c xs∧Below w.heap.size w w'
theorem uW:(prog.info? 170).map (fun i=>(i.zero,i.size,i.bytes))=some (some (.agg #[.int .i64 0,.int .i64 0,.int .i64 0]),3,24):=by kernel_rfl
theorem aPy:(prog.info? 147).map (fun i=>(i.zero,i.size,i.bytes))=some (some (.agg #[.int .i64 0,.int .i64 0]),2,16):=by kernel_rfl
theorem aA4 (w:World):Calls prog 84 #[.slice none 0 0] w (eV dM 170 w []):=by
 have heq:=fun W a n c=>Lib.run_eql_slice_nil (P:=prog) W 71 170 a n c 0 0 underlying71
 go_enter func84,ntmps84
 go_wp2
 go_ret
 exact⟨none,0,rfl,En.Own.none_ _ _ _,bR⟩
theorem xS (a:Addr) (c:Nat) (xs:List dV) (w:World) (h:dM.At w (some a) c xs) (hb:xs.length * 24≤140737488355328):Calls prog 84 #[.slice (some a) xs.length c] w (eV dM 170 w xs):=by
 obtain⟨i0,hi,hz0,hz1,hz2⟩:=info_parts uW
 have heq:=fun W a n c=>Lib.run_eql_slice_nil (P:=prog) W 71 170 a n c 0 0 underlying71
 have H:=Hd h
 clear h
 have hbel:Hid (Below w.heap.size w (w.alloc (.cells #[] 170))):=bR.alloc nR _
 go_enter func84,ntmps84
 go_wp2_with (at_builtin;refine aV dM _ rfl _ _ 71 rfl w.heap.size 170 i0 _ 24 underlying71 hi hz0 hz1 hz2 rfl (some ⟨w.heap.size,0,none⟩) 0 0 [] rfl rfl ?own (some a) c xs.length xs rfl rfl ?at_ ?m1 ?m2 ?m3 ?_)
 case own=>exact En.Own.lit dM w w.heap.size 170 #[] [] nR (Nat.zero_le _) rfl
 case at_=>exact H.out.below hbel.out
 case m1=>simp only[List.length_nil];omega
 case m2=>simp only[List.length_nil];omega
 case m3=>simp
 intro A' c' w' hown hg hat
 have HO:=Hd hown
 have HG:=Hd hg
 clear hown hg hat
 go_wp2
 go_ret
 exact⟨A',c',rfl,HO.out,hbel.out.grown HG.out (by simp) (fun k hk=>by simp[Value.ownBlock] at hk;omega)⟩
theorem nJ (A:Option Addr) (c:Nat) (xs:List dV) (w:World) (h:dM.At w A c xs) (hb:xs.length * 24≤140737488355328):Calls prog 84 #[.slice A xs.length c] w (eV dM 170 w xs):=by
 cases A with
 |none=>
  have hc:=h.nil rfl
  subst hc
  have hx:=List.eq_nil_of_length_eq_zero (Nat.le_zero.1 h.le)
  subst hx
  exact aA4 w
 |some a=>exact xS a c xs w h hb
theorem aA0 (w:World):Calls prog 154 #[.slice none 0 0] w (eV dS 147 w []):=by
 have heq:=fun W a n c=>Lib.run_eql_slice_nil (P:=prog) W 70 147 a n c 0 0 underlying70
 go_enter func154,ntmps154
 go_wp2
 go_ret
 exact⟨none,0,rfl,En.Own.none_ _ _ _,bR⟩
theorem xP (a:Addr) (c:Nat) (xs:List iX) (w:World) (h:dS.At w (some a) c xs) (hb:xs.length * 16≤140737488355328):Calls prog 154 #[.slice (some a) xs.length c] w (eV dS 147 w xs):=by
 obtain⟨i0,hi,hz0,hz1,hz2⟩:=info_parts aPy
 have heq:=fun W a n c=>Lib.run_eql_slice_nil (P:=prog) W 70 147 a n c 0 0 underlying70
 have H:=Hd h
 clear h
 have hbel:Hid (Below w.heap.size w (w.alloc (.cells #[] 147))):=bR.alloc nR _
 go_enter func154,ntmps154
 go_wp2_with (at_builtin;refine aV dS _ rfl _ _ 70 rfl w.heap.size 147 i0 _ 16 underlying70 hi hz0 hz1 hz2 rfl (some ⟨w.heap.size,0,none⟩) 0 0 [] rfl rfl ?own (some a) c xs.length xs rfl rfl ?at_ ?m1 ?m2 ?m3 ?_)
 case own=>exact En.Own.lit dS w w.heap.size 147 #[] [] nR (Nat.zero_le _) rfl
 case at_=>exact H.out.below hbel.out
 case m1=>simp only[List.length_nil];omega
 case m2=>simp only[List.length_nil];omega
 case m3=>simp
 intro A' c' w' hown hg hat
 have HO:=Hd hown
 have HG:=Hd hg
 clear hown hg hat
 go_wp2
 go_ret
 exact⟨A',c',rfl,HO.out,hbel.out.grown HG.out (by simp) (fun k hk=>by simp[Value.ownBlock] at hk;omega)⟩
theorem lD (A:Option Addr) (c:Nat) (xs:List iX) (w:World) (h:dS.At w A c xs) (hb:xs.length * 16≤140737488355328):Calls prog 154 #[.slice A xs.length c] w (eV dS 147 w xs):=by
 cases A with
 |none=>
  have hc:=h.nil rfl
  subst hc
  have hx:=List.eq_nil_of_length_eq_zero (Nat.le_zero.1 h.le)
  subst hx
  exact aA0 w
 |some a=>exact xP a c xs w h hb
end Go.Proofs.YtlibhkkckgkkkaaGreatDoor.Mar
namespace Go.Proofs.YtlibhkkckgkkkaaGreatDoor.Out
open Go.RowKit Go.Proofs.YtlibhkkckgkkkaaGreatDoor.Mem Go.Proofs.Tryz
def rH (x:bH) (now:Int):bH:=if pN x now=true then mT x now else x
def lU (x:bH) (now:Int):Bool:=pN x now&&decide (x.t≤4)
def rI (k:Nat) (x:bH) (now:Int):dV:=if lU x now=true then⟨k,x.v,x.p⟩ else⟨0,0,0⟩
def rJ (x:bH) (now:Int):Int:=if pN x now=true then 0 else 1
theorem aGa (A:Option Addr) (c k n:Nat) (xs:List bH) (hn:xs.length=n) (x:bH) (now:Int) (w:World) (h:dO.At w A c xs) (hb:n * 40≤140737488355328) (hx:xs[k]?=some x) (ht:0≤x.t):
 Calls prog 76 #[.slice A n c,.int .i64 k,.int .i64 now] w (IsS w (xs.set k (rH x now)) n (rI k x now) (lU x now) (rJ x now)):=by
 have H:=Hd h
 have hkn:k<n:=by rw[←hn];exact(List.getElem?_eq_some_iff.1 hx).1
 have hget:∀y:bH,(xs.set k y)[k]?=some y:=fun y=>List.getElem?_set_self (by omega)
 obtain⟨b,hb'⟩:∃b,pN x now=b:=⟨_,rfl⟩
 obtain⟨y,hy⟩:∃y,rH x now=y:=⟨_,rfl⟩
 have HC:=Hd (fun W K2 K3 hA hm hch=>qX A c k n xs hn x y b 149 150 K2 K3 W aRt aRs hA hb hx hm hch (fun e=>by rw[←hy];unfold rH;rw[hb',e];rfl))
 have hm1:=Hd (fun W B hB=>aC8 x now B W hB b hb')
 have hm2:Hid (b=true→∀W B,At1 W B now→Calls prog 150 #[x.val,.pointer (some ⟨B,0,none⟩)] W (Ret y.val W)):=fun e W B hB=>aC7 x now B W hB ht y (by rw[←hy];unfold rH;rw[hb',if_pos e])
 have hgy:=Hd (hget y)
 have q0:Hid (At1 ((w.alloc (.cells #[.int .i64 now] 3)).alloc (.cells #[.int .i64 0,.int .i64 0,.int .i64 0] 170)) w.heap.size now):=by show World.cell? _ _=_;go_simp
 have hbl:Hid (Below w.heap.size w ((w.alloc (.cells #[.int .i64 now] 3)).alloc (.cells #[.int .i64 0,.int .i64 0,.int .i64 0] 170))):=aB (aB bR _) _
 have HK:=HC.out _ #[.pointer (some ⟨w.heap.size,0,none⟩)] #[.pointer (some ⟨w.heap.size,0,none⟩)] (H.out.below hbl.out) (fun W hW=>by rw[app1];exact hm1.out W _ (q0.out.below hW)) (fun e W hW=>by rw[app1];exact hm2.out e W _ (q0.out.below hW))
 have HK2:=Hd HK
 clear HK hget hx
 rw[hy]
 cases b with
 |false=>
  have e1:lU x now=false:=by unfold lU;rw[hb'];rfl
  have e2:rI k x now=⟨0,0,0⟩:=by unfold rI;rw[e1];rfl
  have e3:rJ x now=1:=by unfold rJ;rw[hb'];rfl
  rw[e1,e2,e3]
  clear e1 e2 e3 hb' hy HC hm1 hm2 hn h
  go_enter func76,ntmps76
  go_wp2_with (go_at_call 144;refine HK2.out.mono ?_;rintro e w1 ⟨A1,c1,rfl,hown,hbel⟩;obtain⟨hc1,hf1,hz1⟩:=rT hbel;have HO:=Hd hown;have HB:=Hd hbel;clear hown hbel)
  refine bodyPost_ret (v:=.tuple #[.slice A1 n c1,.agg #[.int .i64 0,.int .i64 0,.int .i64 0],.bool false,.int .i64 1]) (by simp[results,results76,go_sem,hc1]) rfl ⟨A1,c1,rfl,?_,?_⟩
  ·exact(((HO.out.far (by simp) _).far (by simp) _).far (by simp) _).lower hbl.out.size
  ·exact aH (aH (aH (aD hbl.out HB.out) (by simp) _) (by simp) _) (by simp) _
 |true=>
  by_cases h5:5≤x.t
  ·have e1:lU x now=false:=by unfold lU;rw[hb',decide_eq_false (by omega)];rfl
   have e2:rI k x now=⟨0,0,0⟩:=by unfold rI;rw[e1];rfl
   have e3:rJ x now=0:=by unfold rJ;rw[hb'];rfl
   have e4:y.s=3:=by rw[←hy];unfold rH;rw[if_pos hb'];unfold mT;rw[if_pos h5]
   rw[e1,e2,e3]
   clear e1 e2 e3 hb' hy HC hm1 hm2 hn h
   have E4:=Hd e4
   clear e4
   go_enter func76,ntmps76
   go_wp2_with (go_at_call 144;refine HK2.out.mono ?_;rintro e w1 ⟨A1,c1,rfl,hown,hbel⟩;obtain⟨hc1,hf1,hz1⟩:=rT hbel;obtain⟨g,rfl,hge,hlt,r0,r1,r2,r3,r4⟩:=rS hown k y hgy.out;rw[E4.out] at r4;have HO:=Hd hown;have HB:=Hd hbel;clear hown hbel)
   refine bodyPost_ret (v:=.tuple #[.slice (some ⟨g,0,none⟩) n c1,.agg #[.int .i64 0,.int .i64 0,.int .i64 0],.bool false,.int .i64 0]) (by simp[results,results76,go_sem,hc1]) rfl ⟨some ⟨g,0,none⟩,c1,rfl,?_,?_⟩
   ·exact(((HO.out.far (by simp) _).far (by simp) _).far (by simp) _).lower hbl.out.size
   ·exact aH (aH (aH (aD hbl.out HB.out) (by simp) _) (by simp) _) (by simp) _
  ·have e1:lU x now=true:=by unfold lU;rw[hb',decide_eq_true (by omega)];rfl
   have e2:rI k x now=⟨k,y.v,y.p⟩:=by unfold rI;rw[if_pos e1,←hy];unfold rH;rw[if_pos hb'];unfold mT;rw[if_neg h5]
   have e3:rJ x now=0:=by unfold rJ;rw[hb'];rfl
   have e4:y.s=1:=by
    have:=of_decide_eq_true hb'
    rw[←hy];unfold rH;rw[if_pos hb'];unfold mT;rw[if_neg h5];exact this.1
   rw[e1,e2,e3]
   clear e1 e2 e3 hb' hy HC hm1 hm2 hn h
   have E4:=Hd e4
   clear e4
   go_enter func76,ntmps76
   go_wp2_with (go_at_call 144;refine HK2.out.mono ?_;rintro e w1 ⟨A1,c1,rfl,hown,hbel⟩;obtain⟨hc1,hf1,hz1⟩:=rT hbel;obtain⟨g,rfl,hge,hlt,r0,r1,r2,r3,r4⟩:=rS hown k y hgy.out;rw[E4.out] at r4;have HO:=Hd hown;have HB:=Hd hbel;clear hown hbel)
   have hne:g≠w.heap.size+1:=by simp at hge;omega
   have hne2:w.heap.size+1≠g:=by simp at hge;omega
   go_region
   go_wp2
   refine bodyPost_ret (v:=.tuple #[.slice (some ⟨g,0,none⟩) n c1,.agg #[.int .i64 k,.int .i64 y.v,.int .i64 y.p],.bool true,.int .i64 0]) (by simp[results,results76,go_sem,hc1]) rfl ⟨some ⟨g,0,none⟩,c1,rfl,?_,?_⟩
   ·exact(((HO.out.far (by simp) _).far (by simp) _).far (by simp) _).lower hbl.out.size
   ·exact aH (aH (aH (aL (aD hbl.out HB.out) 1) (by simp) _) (by simp) _) (by simp) _
def Z:bH:=⟨0,0,0,0,0⟩
def dI:En Int:=⟨fun n=>[.int .i64 n],1,by omega,fun _=>rfl,fun x u hu=>by simp at hu;rcases hu with rfl;rfl⟩
theorem qS {w:World} {A:Option Addr} {c:Nat} {xs:List Int} (h:dI.At w A c xs) (k:Nat) (x:Int) (hx:xs[k]?=some x):
 ∃b off,A=some ⟨b,off,none⟩∧b<w.heap.size∧w.cell? ⟨b,off+k,none⟩=some (.int .i64 x):=by
 obtain⟨b,off,hA,hlt,hc⟩:=h.get k x hx
 have h0:=hc 0 (by decide)
 have e:k * dI.sz+0=k:=by show k * 1+0=k;omega
 rw[e] at h0
 exact⟨b,off,hA,hlt,h0⟩
theorem wX:(prog.info? 3).map (fun i=>(i.zero,i.size,i.bytes))=some (some (.int .i64 0),1,8):=by kernel_rfl
theorem vH {W:World} {g:Nat} {n:Int} (h0:W.cell? ⟨g,0,none⟩=some (.int .i64 n)):dI.At W (some ⟨g,0,none⟩) 1 [n]:=
 ⟨nR,by omega,(fun e=>by cases e),fun _=>⟨g,0,rfl,bL W _ h0,fun i hi=>by
   have hi3:i<1:=hi
   match i,hi3 with
   |0,_=>exact h0⟩⟩
def mU (L:List bH) (now:Int) (k:Nat):List Int:=(List.range k).filterMap fun i=>if pN (L.getD i Z) now=true then some (i:Int) else none
theorem aEz (L:List bH) (now:Int) (k:Nat) (x:bH) (hx:L[k]?=some x) (h:pN x now=true):mU L now (k+1)=mU L now k++[(k:Int)]:=by
 unfold mU
 rw[List.range_succ,List.filterMap_append]
 simp[List.getD_eq_getElem?_getD,hx,h]
theorem aI7 (L:List bH) (now:Int) (k:Nat) (x:bH) (hx:L[k]?=some x) (h:pN x now=false):mU L now (k+1)=mU L now k:=by
 unfold mU
 rw[List.range_succ,List.filterMap_append]
 simp[List.getD_eq_getElem?_getD,hx,h]
theorem aE0 (L:List bH) (now:Int) (k:Nat):(mU L now k).length≤k:=by
 unfold mU
 have:=List.length_filterMap_le (fun i=>if pN (L.getD i Z) now=true then some (i:Int) else none) (List.range k)
 rwa [List.length_range] at this
def IsD (w:World) (ys:List Int) (r:Ending) (w':World):Prop:=∃A c,r=.returned (.slice A ys.length c)∧dI.Own 3 w' w.heap.size A c ys∧Below w.heap.size w w'
theorem aI8 (A:Option Addr) (c n:Nat) (L:List bH) (hn:L.length=n) (now:Int) (w:World) (h:dO.At w A c L) (hb:n * 40≤140737488355328):
 Calls prog 75 #[.slice A n c,.int .i64 now] w (IsD w (mU L now n)):=by
 obtain⟨i0,hi,iz,isz,iby⟩:=info_parts wX
 have H:=Hd h
 have hle:n≤c:=by rw[←hn];exact h.le
 have hmax:=h.max
 have HN:=Hd hn
 clear h hn
 go_enter func75,ntmps75
 go_wp2
 go_loopw [4,9] (fun v kk wr=>∃(k:Nat) (A':Option Addr) (c':Nat) (ys:List Int),k≤n∧kk=.int .i64 k∧v=.slice A' ys.length c'∧Hid (ys=mU L now k)∧Hid (dI.Own 3 wr w.heap.size A' c' ys)∧Hid (Below w.heap.size w wr)) (fun _ kk _=>n-(intOf kk).toNat)
 case atStart=>exact⟨0,none,0,[],Nat.zero_le _,rfl,rfl,rfl,En.Own.none_ _ _ _,bR⟩
 case round=>
  obtain⟨k,A',c',ys,hk,rfl,rfl,HY,HO,HB⟩:=hrel
  by_cases hlt:k<n
  ·have hx:L[k]?=some (L[k]'(by have:=HN.out;omega)):=gE _
   obtain⟨b,off,rfl,hbl,c0,c1,c2,c3,c4⟩:=qR (H.out.below HB.out) k _ hx
   generalize L[k]'(by have:=HN.out;omega)=x at c0 c1 c2 c3 c4 hx
   have HX:=Hd hx
   clear hx
   have hyl:ys.length≤k:=by rw[HY.out];exact aE0 _ _ _
   have hsz:=HB.out.size
   have HD:Hid (∀W,Calls prog 148 #[.agg #[.int .i64 x.v,.int .i64 x.p,.int .i64 x.t,.int .i64 x.n,.int .i64 x.s],.int .i64 now] W (Ret (.bool (pN x now)) W)):=Hd (fun W=>aB7 x now W)
   cases hd:pN x now with
   |false=>
    rw[hd] at HD
    have HD':=Hd hd
    clear hd
    go_wp2_with (go_at_call 148;refine(HD.out _).mono ?_;rintro e w2 ⟨rfl,hbel⟩;have HB2:=Hd hbel;clear hbel)
    refine⟨⟨k+1,A',c',ys,by omega,by go_num,rfl,Hd (by rw[aI7 L now k x HX.out HD'.out];exact HY.out),(HO.out.below (aB bR _)).below HB2.out,aD (aB HB.out _) HB2.out⟩,?_⟩
    simp[intOf];omega
   |true=>
    rw[hd] at HD
    have HD':=Hd hd
    clear hd
    go_wp2_with (first
     |(go_at_call 148;refine(HD.out _).mono ?_;rintro e w2 ⟨rfl,hbel⟩;have hz2:w.heap.size≤w2.heap.size:=(by have:=hbel.size;simp at this;omega);have HB2:=Hd hbel;clear hbel)
     |(at_builtin;refine aV dI _ rfl _ _ 23 rfl w.heap.size 3 i0 _ 8 underlying23 hi iz isz iby rfl A' c' ys.length ys rfl rfl ?own (some ⟨w2.heap.size,0,none⟩) 1 1 [(k:Int)] rfl rfl ?at_ ?m1 ?m2 ?m3 ?_))
    case own=>exact((HO.out.below (aB bR _)).below HB2.out).below (aB bR _)
    case at_=>exact vH (aS w2 _ _ _)
    case m1=>simp;omega
    case m2=>simp;omega
    case m3=>simp;omega
    intro A3 c3 w3 hown hg hat
    have HO3:=Hd hown
    have HG:=Hd hg
    clear hown hg hat
    go_wp2
    refine⟨⟨k+1,A3,_,_,by omega,by go_num,slc (by simp),Hd (by rw[aEz L now k x HX.out HD'.out,HY.out]),HO3.out,bV (aB (aD (aB HB.out _) HB2.out) _) HG.out (fun q hq=>(HO.out.row q hq).1)⟩,?_⟩
    simp[intOf];omega
  ·obtain rfl:k=n:=by omega
   go_wp2
   go_ret
   exact⟨A',c',congrArg Ending.returned (slc (by rw[HY.out])),by rw[←HY.out];exact HO.out,HB.out⟩
end Go.Proofs.YtlibhkkckgkkkaaGreatDoor.Out
