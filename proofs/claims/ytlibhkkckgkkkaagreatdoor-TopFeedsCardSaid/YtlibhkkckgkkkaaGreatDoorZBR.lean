/- Part of the proof of TopFeeds: FedA. -/
import Derived.Test.YtlibhkkckgkkkaaGreatDoorZAP
import Derived.Test.YtlibhkkckgkkkaaGreatDoorZAS
import Derived.Test.YtlibhkkckgkkkaaGreatDoorZAT
set_option maxHeartbeats 2000000
set_option maxRecDepth 100000
namespace Go.Proofs.YtlibhkkckgkkkaaGreatDoor.Tf
open Go.RowKit Go.Proofs.YtlibhkkckgkkkaaGreatDoor.Mem Go.Proofs.YtlibhkkckgkkkaaGreatDoor.Boo Go.Proofs.Tryz
theorem aDm (s:ByteArray) (hs:s.size<4294967281) (v:Int) (h:eF s=(v,0)) (hv:v≠0) (hg:s≠⟨#[103,111,110,101]⟩) (w:World) (G:Gl w):Calls prog 127 #[.string s] w (Ret (.int .i64 v) w):=by
 have HPA:=Hd (fun W G=>pG s hs W G)
 rw[h] at HPA
 dsimp only at HPA
 have HG:=Hd G
 have hvb:=bN hv
 have hz:(s.toList==[103,111,110,101])=false:=by
  rw[Bool.eq_false_iff]
  intro e
  refine hg (kB (b:=⟨#[103,111,110,101]⟩) ?_)
  unfold eqS
  rw[show(⟨#[103,111,110,101]⟩:ByteArray).toList=[103,111,110,101] from by decide +kernel]
  exact e
 clear h G hs hg
 go_enter func127,ntmps127
 go_wp2_with (first|(go_at_call 216;go_must (refine rB w (HPA.out _ (HG.out.below blw)) ?_;intro wq1 Bq1)))
 go_ret
 exact⟨rfl,blw⟩
theorem aFi (s k l:ByteArray) (n p:Int) (hs:s.size≤100) (hk:k.size≤100) (hl:l.size≤100) (h1:aZ s=true) (h2:aZ k=true) (h3:aZ l=true) (n1:1≤n) (n2:n≤1000000000000) (p1:1≤p) (p2:p≤1000000000000) (w:World):
 Calls prog 128 #[.agg #[.string s,.int .i64 n,.string k,.string l,.int .i64 p]] w (Ret (.agg #[.bool false,.bool false,.bool false,.bool false,.bool false]) w):=by
 have HS:=Hd (fun W=>eB s W (by omega))
 have HK:=Hd (fun W=>eB k W (by omega))
 have HL:=Hd (fun W=>eB l W (by omega))
 rw[h1] at HS
 rw[h2] at HK
 rw[h3] at HL
 have Z1:Hid (¬n<1):=Hd (by omega)
 have Z2:Hid (¬(1000000000000:Int)<n):=Hd (by omega)
 have Z3:Hid (¬p<0):=Hd (by omega)
 have Z4:Hid (¬(1000000000000:Int)<p):=Hd (by omega)
 clear hs hk hl h1 h2 h3 n1 n2 p1 p2
 obtain⟨W0,hW0⟩:∃W0,W0=(w.alloc (.cells #[.string s,.int .i64 n,.string k,.string l,.int .i64 p] 151)).alloc (.cells #[.bool false,.bool false,.bool false,.bool false,.bool false] 236):=⟨_,rfl⟩
 have hb0:Below w.heap.size w W0:=by rw[hW0];exact aB (aB bR _) _
 have hrow:W0.heap[w.heap.size]?=some (.cells #[.string s,.int .i64 n,.string k,.string l,.int .i64 p] 151 (0,0)):=by
  rw[hW0]
  exact(Below.heap_alloc _ _ _ (by simp)).trans (heap_alloc_new w _)
 have hrow2:W0.heap[w.heap.size+1]?=some (.cells #[.bool false,.bool false,.bool false,.bool false,.bool false] 236 (0,0)):=by
  rw[hW0]
  have:=heap_alloc_new (w.alloc (.cells #[.string s,.int .i64 n,.string k,.string l,.int .i64 p] 151)) (.cells #[.bool false,.bool false,.bool false,.bool false,.bool false] 236)
  rw[show(w.alloc (.cells #[.string s,.int .i64 n,.string k,.string l,.int .i64 p] 151)).heap.size=w.heap.size+1 by simp] at this
  exact this
 have q0:∀d os,(Sort.grow (redrawn W0 d) os).cell? ⟨w.heap.size,0,none⟩=some (.string s):=cell_regrown (aA hrow 0)
 have q1:∀d os,(Sort.grow (redrawn W0 d) os).cell? ⟨w.heap.size,1,none⟩=some (.int .i64 n):=cell_regrown (aA hrow 1)
 have q2:∀d os,(Sort.grow (redrawn W0 d) os).cell? ⟨w.heap.size,2,none⟩=some (.string k):=cell_regrown (aA hrow 2)
 have q3:∀d os,(Sort.grow (redrawn W0 d) os).cell? ⟨w.heap.size,3,none⟩=some (.string l):=cell_regrown (aA hrow 3)
 have q4:∀d os,(Sort.grow (redrawn W0 d) os).cell? ⟨w.heap.size,4,none⟩=some (.int .i64 p):=cell_regrown (aA hrow 4)
 have cS:∀d os,Calls prog 60 #[.string s] (Sort.grow (redrawn W0 d) os) fun e w''=>e=.returned (.bool true)∧∃p:Regrown,w''=Sort.grow (redrawn W0 p.d) p.os:=fun d os=>Calls.regrown_of (HS.out _)
 have cK:∀d os,Calls prog 60 #[.string k] (Sort.grow (redrawn W0 d) os) fun e w''=>e=.returned (.bool true)∧∃p:Regrown,w''=Sort.grow (redrawn W0 p.d) p.os:=fun d os=>Calls.regrown_of (HK.out _)
 have cL:∀d os,Calls prog 60 #[.string l] (Sort.grow (redrawn W0 d) os) fun e w''=>e=.returned (.bool true)∧∃p:Regrown,w''=Sort.grow (redrawn W0 p.d) p.os:=fun d os=>Calls.regrown_of (HL.out _)
 have HW0:=Hd hW0
 have HR2:=Hd hrow2
 have HB0:=Hd hb0
 clear hrow hrow2 hb0
 go_enter func128,ntmps128
 go_wp2_with fail
 change Code.wp _ _ _ _ ((w.alloc (.cells #[.string s,.int .i64 n,.string k,.string l,.int .i64 p] 151)).alloc (.cells #[.bool false,.bool false,.bool false,.bool false,.bool false] 236))
 rw[←hW0]
 clear hW0
 have z1:=decide_eq_false (Int.not_lt.2 Z1.out)
 have z2:=decide_eq_false (Int.not_lt.2 Z2.out)
 have z3:=decide_eq_false (Int.not_lt.2 Z3.out)
 have z4:=decide_eq_false (Int.not_lt.2 Z4.out)
 refine iQ 29 (by kernel_rfl) (by kernel_rfl) ?_
 simp only[List.take_succ_cons,List.take_zero,List.drop_succ_cons,List.drop_zero]
 repeat(go_big_quiet_step (first|(with_reducible exact cS _ _)|(with_reducible exact cK _ _)|(with_reducible exact cL _ _)))
 refine wpQuiet_nil ?_
 intro _ hw'
 obtain⟨⟨dq,osq⟩,hw''⟩:=hw'
 subst hw''
 obtain⟨W1,hW1⟩:∃W1,W1=Sort.grow (redrawn W0 dq) osq:=⟨_,rfl⟩
 rw[←hW1]
 have hb1:Below W0.heap.size W0 W1:=by rw[hW1];exact below_regrown W0 dq osq
 have HB1:=Hd (aD HB0.out hb1)
 have hr1:=(hb1.block _ (gLt HR2.out)).trans HR2.out
 have f0:=fZ hr1
 have hl1:=(gLt hr1)
 have e0:=cV hr1 0 (.bool false)
 have e1:=cV hr1 1 (.bool false)
 have e2:=cV hr1 2 (.bool false)
 have e3:=cV hr1 3 (.bool false)
 have e4:=cV hr1 4 (.bool false)
 clear hW1 hb1 hr1 q0 q1 q2 q3 q4 cS cK cL
 go_wp2_with fail
 exact bodyPost_ret (v:=.agg #[.bool false,.bool false,.bool false,.bool false,.bool false]) (by simp[results,results128,go_sem, *]) rfl ⟨rfl,blw⟩
end Go.Proofs.YtlibhkkckgkkkaaGreatDoor.Tf
