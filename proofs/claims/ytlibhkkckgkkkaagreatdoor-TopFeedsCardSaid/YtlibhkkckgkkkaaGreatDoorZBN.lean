/- Part of the proof of TopFeeds: LwM LwN LwO. -/
import Derived.Test.YtlibhkkckgkkkaaGreatDoorZAP
import Derived.Test.YtlibhkkckgkkkaaGreatDoorZBC
import Derived.Test.YtlibhkkckgkkkaaGreatDoorZBH
import Derived.Test.YtlibhkkckgkkkaaGreatDoorZBM
set_option maxHeartbeats 4000000
set_option maxRecDepth 100000
namespace Go.Proofs.YtlibhkkckgkkkaaGreatDoor.Tf
open Go.RowKit Go.Proofs.YtlibhkkckgkkkaaGreatDoor.Mem Go.Proofs.YtlibhkkckgkkkaaGreatDoor.Boo Go.Proofs.Tryz
def aKo (w:World) (e:Ending) (w':World):Prop:=∃(x:Ex) (v:EV),e=.returned v.v∧bB (fun b=>w.heap.size≤b) w' x v∧Gen 5 false x∧Below w.heap.size w w'
theorem aK6 {w:World} {A:Option Addr} {c n:Nat} {xs:List Int} (hn:xs.length=n) (hat:dZ.At w A c xs) (hI:∀x∈xs,I64 x):
 Src (w.heap.size+1) (w.heap.size+1+1) ((w.alloc (.cells z51 51)).alloc (.cells #[.slice A n c] 130)):=by
 subst hn
 refine⟨⟨xs,A,c,?_,hat.below (aB (aB bR _) _),fun b o f h0 e=>?_,hI⟩,Nat.lt_succ_self _,by simp⟩
 ·have:=aN (w.alloc (.cells z51 51)) (.cells #[.slice A xs.length c] 130)
  simpa using this
 ·obtain⟨b',o',hA,hlt,_⟩:=hat.cell h0
  rw[e] at hA
  cases hA
  omega
theorem tH {w W1 W2:World} {v:EV} {x:Ex} (hW1:Below w.heap.size w W1) (hs:W1.heap.size=w.heap.size+1+1) (hd:aQ (w.heap.size+1) (w.heap.size+1+1) W1 W2) (hx:bB (fun b=>W1.heap.size≤b) W2 x v) (hg:Gen 5 false x) (u0 u1 u2 u3:Value):
 aKo w (.returned v.v) ((((W2.setCell ⟨w.heap.size,0,none⟩ u0).setCell ⟨w.heap.size,1,none⟩ u1).setCell ⟨w.heap.size,2,none⟩ u2).setCell ⟨w.heap.size,3,none⟩ u3):=by
 have h1:bB (fun q=>w.heap.size<q) W2 x v:=hx.mono (fun b hb _=>by omega)
 refine⟨x,v,rfl,(vB h1 u0 u1 u2 u3).mono (fun b hb _=>Nat.le_of_lt hb),hg,?_⟩
 have h2:Below w.heap.size w W2:=⟨hd.2.os.trans hW1.os,hd.2.tape.trans hW1.tape,hd.2.output.trans hW1.output,Nat.le_trans hW1.size hd.2.size,fun k hk=>(hd.2.block k (by omega) (by simp;omega)).trans (hW1.block k hk)⟩
 exact aF (p:=⟨w.heap.size,3,none⟩) (aF (p:=⟨w.heap.size,2,none⟩) (aF (p:=⟨w.heap.size,1,none⟩) (aF (p:=⟨w.heap.size,0,none⟩) h2 nR _) nR _) nR _) nR _
theorem aC0 (A:Option Addr) (c n:Nat) (xs:List Int) (hn:xs.length=n) (w:World) (hat:dZ.At w A c xs) (hI:∀x∈xs,I64 x):Calls prog 19 #[.slice A n c] w (aKo w):=by
 have HE:Hid (∀(m:Nat),(∃ys:List Int,ys.length=m∧dZ.At w A c ys∧∀x∈ys,I64 x)→Calls prog 56 #[.pointer (some ⟨w.heap.size+1,0,none⟩),.int .i64 5,.bool false] ((w.alloc (.cells z51 51)).alloc (.cells #[.slice A m c] 130)) (eV (w.heap.size+1) (w.heap.size+1+1) 5 false ((w.alloc (.cells z51 51)).alloc (.cells #[.slice A m c] 130)))):=Hd (fun m ⟨ys,h1,h2,h3⟩=>wZ 5 (by decide) (by decide) false _ _ _ (aK6 h1 h2 h3))
 by_cases h:n≤100
 ·have HY:Hid (∃ys:List Int,ys.length=n∧dZ.At w A c ys∧∀x∈ys,I64 x):=Hd ⟨xs,hn,hat,hI⟩
  have z1:¬(n:Int)>100:=by omega
  clear hat hI hn h
  go_enter func19,ntmps19
  go_wp2_with (go_at_call 56;go_must (refine(HE.out n HY.out).mono ?_;rintro e W2 ⟨x,⟨xk,xn,xs',xA,xm,xc⟩,rfl,hx,gx,hd⟩;have HX:=Hd hx;have HG:=Hd gx;have HD:=Hd hd;have hr:=hd.row (b:=w.heap.size) (o:=.cells z51 51 (0,0)) ((Below.heap_alloc _ _ _ (by simp)).trans (aN w _)) (by omega);have q0:=aA hr 0;have q1:=aA hr 1;have q2:=aA hr 2;have q3:=aA hr 3;have f0:∀o,W2.frozen? ⟨w.heap.size,o,none⟩=false:=fun o=>fH hr o;have hl:=(gLt hr);unfold EV.v;clear hx gx hd hr))
  exact bodyPost_ret (v:=.agg #[.int .i64 xk,.int .i64 xn,.string xs',.slice xA xm xc]) (by simp[results,results19,go_sem, *]) rfl (tH (v:=⟨xk,xn,xs',xA,xm,xc⟩) (aB (aB bR _) _) (by simp) HD.out HX.out HG.out _ _ _ _)
 ·have HY:Hid (∃ys:List Int,ys.length=100∧dZ.At w A c ys∧∀x∈ys,I64 x):=Hd ⟨xs.take 100,by simp;omega,hat.take 100 (by omega),fun x hx=>hI x (List.mem_of_mem_take hx)⟩
  have z1:(n:Int)>100:=by omega
  have hle:n≤c:=by rw[←hn];exact hat.le
  obtain⟨b,o,rfl,hlt,_⟩:=hat.cell (by omega)
  have hs:∀W,(Instr.slice 23 (.slice (some ⟨b,o,none⟩) n c) none (some (.int .i64 100)) none).run prog W=.ok (.slice (some ⟨b,o,none⟩) 100 c) W:=fun W=>by
   have hs:(sizeOf (prog.elem 23)).run prog W=.ok 1 W:=by kernel_rfl
   have:=run_slice_h (P:=prog) W 23 (some ⟨b,o,none⟩) n c (by kernel_rfl) .i64 100 (by omega) (by omega)
   rw[this,hs]
   simp[Result.andThen,sliced,Addr.add]
  clear hat hI hn h hle hlt
  go_enter func19,ntmps19
  go_wp2_with (go_at_call 56;go_must (refine(HE.out 100 HY.out).mono ?_;rintro e W2 ⟨x,⟨xk,xn,xs',xA,xm,xc⟩,rfl,hx,gx,hd⟩;have HX:=Hd hx;have HG:=Hd gx;have HD:=Hd hd;have hr:=hd.row (b:=w.heap.size) (o:=.cells z51 51 (0,0)) ((Below.heap_alloc _ _ _ (by simp)).trans (aN w _)) (by omega);have q0:=aA hr 0;have q1:=aA hr 1;have q2:=aA hr 2;have q3:=aA hr 3;have f0:∀o,W2.frozen? ⟨w.heap.size,o,none⟩=false:=fun o=>fH hr o;have hl:=(gLt hr);unfold EV.v;clear hx gx hd hr))
  exact bodyPost_ret (v:=.agg #[.int .i64 xk,.int .i64 xn,.string xs',.slice xA xm xc]) (by simp[results,results19,go_sem, *]) rfl (tH (v:=⟨xk,xn,xs',xA,xm,xc⟩) (aB (aB bR _) _) (by simp) HD.out HX.out HG.out _ _ _ _)
end Go.Proofs.YtlibhkkckgkkkaaGreatDoor.Tf
namespace Go.Proofs.YtlibhkkckgkkkaaGreatDoor.Tf
open Go.RowKit Go.Sort Go.Proofs.YtlibhkkckgkkkaaGreatDoor.Mem Go.Proofs.YtlibhkkckgkkkaaGreatDoor.Boo Go.Proofs.Tryz
def tX:Nat→Ex
 |0=>.node 1 0 ⟨#[]⟩ []
 |1=>.node 9 0 ⟨#[]⟩ [.node 5 1 ⟨#[]⟩ [.node 1 0 ⟨#[]⟩ []],.node 4 999 ⟨#[]⟩ []]
 |2=>.node 6 250 ⟨#[]⟩ [.node 2 0 ⟨#[]⟩ []]
 |_=>.node 10 0 ⟨#[]⟩ [.node 11 2 ⟨#[]⟩ [],.node 8 0 ⟨#[]⟩ [.node 1 0 ⟨#[]⟩ [],.node 4 500 ⟨#[]⟩ []],.node 3 0 (aK 1) []]
theorem lS (k:Nat):Gen 5 false (tX k):=by
 match k with
 |0=>exact Gen.low 4
 |1=>exact Gen.two 4 9 (by decide) _ _ (Gen.less 3 1 (by decide) _ (Gen.low 2)) (Gen.fix 3 999 (by decide))
 |2=>exact Gen.cut 4 250 (by decide) _ (Gen.sec 3)
 |k+3=>exact Gen.iff 4 _ _ _ (Gen.more 3 2 (by decide)) (Gen.two 3 8 (by decide) _ _ (Gen.low 2) (Gen.fix 2 500 (by decide))) (Gen.frm 3 1 (by decide))
theorem tX_0:bl (aM (tX 0))=⟨#[108,111,119,101,115,116]⟩:=by decide +kernel
theorem tX_1:bl (aM (tX 1))=⟨#[101,108,115,101,40,108,101,115,115,40,108,111,119,101,115,116,44,32,48,46,48,49,41,44,32,57,46,57,57,41]⟩:=by decide +kernel
theorem tX_2:bl (aM (tX 2))=⟨#[99,117,116,40,115,101,99,111,110,100,44,32,50,53,48,41]⟩:=by decide +kernel
theorem tX_3:bl (aM (tX 3))=⟨#[105,102,40,109,111,114,101,40,50,41,44,32,109,97,120,40,108,111,119,101,115,116,44,32,53,46,48,48,41,44,32,102,114,111,109,40,98,111,98,48,41,41]⟩:=by decide +kernel
theorem lR (k:Nat):(aM (tX k)).length≤2000:=by
 match k with
 |0=>decide +kernel
 |1=>decide +kernel
 |2=>decide +kernel
 |k+3=>
  show(aM (tX 3)).length≤2000
  decide +kernel
theorem uQ (x:Ex):(pE x=0∧kZ x=bl (aM x)∧(aM x).length≤2000)∨pE x=1:=by
 unfold pE kZ
 by_cases h:(aM x).length≤2000
 ·rw[if_pos h,if_pos h];exact .inl ⟨rfl,rfl,h⟩
 ·rw[if_neg h];exact .inr rfl
def aKu (w:World) (e:Ending) (w':World):Prop:=∃C:Cf,e=.returned C.v∧mB C∧Below w.heap.size w w'
theorem eN {w W:World} {b:Nat} (h:Below w.heap.size w W) (hb:w.heap.size≤b) (u0 u1 u2 u3 u4 u5:Value):Below w.heap.size w ((((((W.setCell ⟨b,0,none⟩ u0).setCell ⟨b,1,none⟩ u1).setCell ⟨b,2,none⟩ u2).setCell ⟨b,3,none⟩ u3).setCell ⟨b,4,none⟩ u4).setCell ⟨b,5,none⟩ u5):=
 aF (p:=⟨b,5,none⟩) (aF (p:=⟨b,4,none⟩) (aF (p:=⟨b,3,none⟩) (aF (p:=⟨b,2,none⟩) (aF (p:=⟨b,1,none⟩) (aF (p:=⟨b,0,none⟩) h hb _) hb _) hb _) hb _) hb _) hb _
theorem mO {w W:World} {b d:Nat} (h:Below w.heap.size w W) (hb:w.heap.size≤b) (hd:w.heap.size≤d) (s u0 u1 u2 u3 u4 u5:Value):Below w.heap.size w (((((((W.setCell ⟨d,5,none⟩ s).setCell ⟨b,0,none⟩ u0).setCell ⟨b,1,none⟩ u1).setCell ⟨b,2,none⟩ u2).setCell ⟨b,3,none⟩ u3).setCell ⟨b,4,none⟩ u4).setCell ⟨b,5,none⟩ u5):=
 eN (aF (p:=⟨d,5,none⟩) h hd s) hb _ _ _ _ _ _
abbrev zz27:Array Value:=#[.int .i64 0,.int .i64 0,.int .i64 0,.int .i64 0,.int .i64 0,.string ⟨#[]⟩]
structure CA (w:World) (a b d:Nat) (R cs:Array Value) (W:World):Prop where
 ra:W.heap[a]?=some (.cells R 22 (0,0))
 rb:W.heap[b]?=some (.cells zz27 27 (0,0))
 rd:W.heap[d]?=some (.cells cs 27 (0,0))
 bel:Below w.heap.size w W
section
variable {w W W':World} {a b d:Nat} {R cs:Array Value}
theorem CA.set (h:CA w a b d R cs W) (nad:a≠d) (nbd:b≠d) (hd:w.heap.size≤d) (i:Nat) (v:Value):CA w a b d R (cs.setIfInBounds i v) (W.setCell ⟨d,i,none⟩ v):=
 ⟨(aG W ⟨d,i,none⟩ v a nad).trans h.ra,(aG W ⟨d,i,none⟩ v b nbd).trans h.rb,aE W d i cs 27 v h.rd,aF (p:=⟨d,i,none⟩) h.bel hd v⟩
theorem CA.below (h:CA w a b d R cs W) (k:Below W.heap.size W W'):CA w a b d R cs W':=
 ⟨(k.block _ (gLt h.ra)).trans h.ra,(k.block _ (gLt h.rb)).trans h.rb,(k.block _ (gLt h.rd)).trans h.rd,h.bel.trans (aP k h.bel.size)⟩
end
theorem aE8 (r0 r1 r2 r3 r4 r5 F Ce M:Int) (Q:Int→Int→Int) (A:Option Addr) (c n:Nat) (w:World) (hI:I64 r0∧I64 r1∧I64 r2∧I64 r3∧I64 r4∧I64 r5)
 (HP:Hid (∀c n W,I64 c→0<n→Calls prog 17 #[.int .i64 c,.int .i64 n] W fun e w'=>e=.returned (.int .i64 (Q c n))∧W=w'))
 (h0:wrap64 (1+Q r0 1500)=F) (h1:IntKind.i64.wrap (F+Q r1 2000)=Ce) (h2:wrap64 (Ce+1)=M) (hM:0<M) (HQ2:Hid (0≤Q r2 M∧Q r2 M≤Ce)) (HCE:Hid (0≤Ce)) (HQ4:Hid (0≤Q r4 60∧Q r4 60≤60)) (hQ5:Q r5 4=0∨Q r5 4=1∨Q r5 4=2∨Q r5 4=3)
 (HB:Hid (1≤F∧F≤Ce∧Ce≤4000∧0≤Q r3 12∧Q r3 12≤12))
 (HST:Hid (∀W,Below w.heap.size w W→Calls prog 19 #[.slice A n c] W (aKo W)))
 (HPR:Hid (∀W x (v:EV) S,Gen 5 false x→bB S W x v→Calls prog 18 #[v.v] W (Ret (.tuple #[.string (kZ x),.int .i64 (pE x)]) W))):
 Calls prog 5 #[.agg #[.int .i64 r0,.int .i64 r1,.int .i64 r2,.int .i64 r3,.int .i64 r4,.int .i64 r5],.slice A n c] w (aKu w):=by
 have HI:=Hd hI
 have HMp:=Hd hM
 clear hI hM
 go_enter func5,ntmps5
 go_wp2_with (go_at_call 17;go_must (refine(HP.out _ _ _ (by first|exact HI.out.1|exact HI.out.2.1|exact HI.out.2.2.1|exact HI.out.2.2.2.1|exact HI.out.2.2.2.2.1|exact HI.out.2.2.2.2.2) (by first|decide|exact HMp.out)).mono ?_;rintro e W ⟨rfl,rfl⟩))
 obtain⟨W0,hW0⟩:∃W0,W0=((w.alloc (.cells #[.int .i64 r0,.int .i64 r1,.int .i64 r2,.int .i64 r3,.int .i64 r4,.int .i64 r5] 22)).alloc (.cells #[.int .i64 0,.int .i64 0,.int .i64 0,.int .i64 0,.int .i64 0,.string ⟨#[]⟩] 27)).alloc (.cells #[.int .i64 F,.int .i64 0,.int .i64 0,.int .i64 0,.int .i64 0,.string ⟨#[]⟩] 27):=⟨_,rfl⟩
 rw[←hW0]
 have hB0:Below w.heap.size w W0:=by rw[hW0];exact aB (aB (aB bR _) _) _
 have g0:W0.heap[w.heap.size]?=some (.cells #[.int .i64 r0,.int .i64 r1,.int .i64 r2,.int .i64 r3,.int .i64 r4,.int .i64 r5] 22 (0,0)):=by
  rw[hW0]
  exact((aB (Below.refl (World.heap _).size _) _).block _ (by simp;omega)).trans (((aB (Below.refl (World.heap _).size _) _).block _ (by simp)).trans (aN w _))
 have g1:W0.heap[w.heap.size+1]?=some (.cells #[.int .i64 0,.int .i64 0,.int .i64 0,.int .i64 0,.int .i64 0,.string ⟨#[]⟩] 27 (0,0)):=by
  rw[hW0]
  exact((aB (Below.refl (World.heap _).size _) _).block _ (by simp)).trans (by have:=aN (w.alloc (.cells #[.int .i64 r0,.int .i64 r1,.int .i64 r2,.int .i64 r3,.int .i64 r4,.int .i64 r5] 22)) (.cells #[.int .i64 0,.int .i64 0,.int .i64 0,.int .i64 0,.int .i64 0,.string ⟨#[]⟩] 27);simpa using this)
 have g2:W0.heap[w.heap.size+1+1]?=some (.cells #[.int .i64 F,.int .i64 0,.int .i64 0,.int .i64 0,.int .i64 0,.string ⟨#[]⟩] 27 (0,0)):=by
  rw[hW0]
  have:=aN ((w.alloc (.cells #[.int .i64 r0,.int .i64 r1,.int .i64 r2,.int .i64 r3,.int .i64 r4,.int .i64 r5] 22)).alloc (.cells #[.int .i64 0,.int .i64 0,.int .i64 0,.int .i64 0,.int .i64 0,.string ⟨#[]⟩] 27)) (.cells #[.int .i64 F,.int .i64 0,.int .i64 0,.int .i64 0,.int .i64 0,.string ⟨#[]⟩] 27)
  simpa using this
 obtain⟨a,ha⟩:∃a,a=w.heap.size:=⟨_,rfl⟩
 obtain⟨b,hb⟩:∃b,b=w.heap.size+1:=⟨_,rfl⟩
 obtain⟨d,hd⟩:∃d,d=w.heap.size+1+1:=⟨_,rfl⟩
 have nad:a≠d:=by omega
 have nda:d≠a:=by omega
 have nbd:b≠d:=by omega
 have HAB:Hid (w.heap.size≤a∧w.heap.size≤b∧w.heap.size≤d):=Hd ⟨by omega,by omega,by omega⟩
 have nab:a≠b:=by omega
 rw[←hd] at g2 ⊢
 rw[←hb] at g1 ⊢
 rw[←ha] at g0 ⊢
 have a0:W0.cell? ⟨a,0,none⟩=some (.int .i64 r0):=aA g0 0
 have a1:W0.cell? ⟨a,1,none⟩=some (.int .i64 r1):=aA g0 1
 have a2:W0.cell? ⟨a,2,none⟩=some (.int .i64 r2):=aA g0 2
 have a3:W0.cell? ⟨a,3,none⟩=some (.int .i64 r3):=aA g0 3
 have a4:W0.cell? ⟨a,4,none⟩=some (.int .i64 r4):=aA g0 4
 have a5:W0.cell? ⟨a,5,none⟩=some (.int .i64 r5):=aA g0 5
 have d0:W0.cell? ⟨d,0,none⟩=some (.int .i64 F):=aA g2 0
 have d1:W0.cell? ⟨d,1,none⟩=some (.int .i64 0):=aA g2 1
 have d2:W0.cell? ⟨d,2,none⟩=some (.int .i64 0):=aA g2 2
 have fd:∀o,W0.frozen? ⟨d,o,none⟩=false:=fun o=>fH g2 o
 have ld:=(gLt g2)
 have G0:=Hd g0
 have G1:=Hd g1
 have G2:=Hd g2
 have HB0:=Hd hB0
 clear hW0 ha hb hd g0 g1 g2 hB0
 have p1:=cell_regrown a1
 have p0:=cell_regrown d0
 have cA:∀dd os,Calls prog 17 #[.int .i64 r1,.int .i64 2000] (Sort.grow (redrawn W0 dd) os) fun e w''=>e=.returned (.int .i64 (Q r1 2000))∧∃p:Regrown,w''=Sort.grow (redrawn W0 p.d) p.os:=fun dd os=>Calls.regrown_of ((HP.out r1 2000 _ HI.out.2.1 (by decide)).mono (fun e w' h=>⟨h.1,h.2▸bR⟩))
 refine iQ 6 (by kernel_rfl) (by kernel_rfl) ?_
 simp only[List.take_succ_cons,List.take_zero,List.drop_succ_cons,List.drop_zero]
 repeat(go_big_quiet_step (with_reducible exact cA _ _))
 refine wpQuiet_nil ?_
 intro _ hw'
 obtain⟨⟨dq,osq⟩,hw''⟩:=hw'
 subst hw''
 have hb1:=below_regrown W0 dq osq
 generalize Sort.grow (redrawn W0 dq) osq=W1 at hb1 ⊢
 have g0:=(hb1.block _ (gLt G0.out)).trans G0.out
 have g1:=(hb1.block _ (gLt G1.out)).trans G1.out
 have g2:=(hb1.block _ (gLt G2.out)).trans G2.out
 clear a0 a1 a2 a3 a4 a5 d0 d1 d2 fd ld p0 p1 cA
 have a2:W1.cell? ⟨a,2,none⟩=some (.int .i64 r2):=aA g0 2
 have d1:W1.cell? ⟨d,1,none⟩=some (.int .i64 0):=aA g2 1
 have d2:W1.cell? ⟨d,2,none⟩=some (.int .i64 0):=aA g2 2
 have fd:∀o,W1.frozen? ⟨d,o,none⟩=false:=fun o=>fH g2 o
 have ld:=(gLt g2)
 have HB1:Hid (Below w.heap.size w W1):=Hd (HB0.out.trans (aP hb1 HB0.out.size))
 have HC1:Hid (CA w a b d #[.int .i64 r0,.int .i64 r1,.int .i64 r2,.int .i64 r3,.int .i64 r4,.int .i64 r5] #[.int .i64 F,.int .i64 0,.int .i64 0,.int .i64 0,.int .i64 0,.string ⟨#[]⟩] W1):=Hd ⟨g0,g1,g2,HB1.out⟩
 clear g0 g1 g2 hb1
 go_upto_if 30 with(go_at_call 17;go_must (refine(HP.out _ _ _ (by first|exact HI.out.1|exact HI.out.2.1|exact HI.out.2.2.1|exact HI.out.2.2.2.1|exact HI.out.2.2.2.2.1|exact HI.out.2.2.2.2.2) (by first|decide|exact HMp.out)).mono ?_;rintro e W ⟨rfl,rfl⟩))
 have HC2:Hid (CA w a b d #[.int .i64 r0,.int .i64 r1,.int .i64 r2,.int .i64 r3,.int .i64 r4,.int .i64 r5] #[.int .i64 F,.int .i64 Ce,.int .i64 (Q r2 M),.int .i64 0,.int .i64 0,.string ⟨#[]⟩] ((W1.setCell ⟨d,1,none⟩ (.int .i64 Ce)).setCell ⟨d,2,none⟩ (.int .i64 (Q r2 M)))):=Hd ((HC1.out.set nad nbd HAB.out.2.2 1 _).set nad nbd HAB.out.2.2 2 _)
 generalize (W1.setCell ⟨d,1,none⟩ (.int .i64 Ce)).setCell ⟨d,2,none⟩ (.int .i64 (Q r2 M))=W2 at HC2 ⊢
 clear a2 d1 d2 fd ld
 have d2:W2.cell? ⟨d,2,none⟩=some (.int .i64 (Q r2 M)):=aA HC2.out.rd 2
 have fd:∀o,W2.frozen? ⟨d,o,none⟩=false:=fun o=>fH HC2.out.rd o
 have ld:=(gLt HC2.out.rd)
 go_cut [31] (fun q31 wx=>∃mp:Int,Hid (0≤mp∧mp≤Ce)∧Hid (CA w a b d #[.int .i64 r0,.int .i64 r1,.int .i64 r2,.int .i64 r3,.int .i64 r4,.int .i64 r5] #[.int .i64 F,.int .i64 Ce,.int .i64 mp,.int .i64 0,.int .i64 0,.string ⟨#[]⟩] wx))
 case first=>
  go_wp2_with fail
  all_goals go_meet
  all_goals first
   |exact⟨0,Hd ⟨by decide,HCE.out⟩,Hd (HC2.out.set nad nbd HAB.out.2.2 2 _)⟩
   |exact⟨_,HQ2,HC2⟩
 case rest=>
  obtain⟨mp,HMB,HC3⟩:=hcut
  obtain⟨W3,hw3⟩:∃w,w=wc:=⟨_,rfl⟩
  subst hw3
  clear d2 fd ld
  have a3:W3.cell? ⟨a,3,none⟩=some (.int .i64 r3):=aA HC3.out.ra 3
  have a4:W3.cell? ⟨a,4,none⟩=some (.int .i64 r4):=aA HC3.out.ra 4
  have d3:W3.cell? ⟨d,3,none⟩=some (.int .i64 0):=aA HC3.out.rd 3
  have d4:W3.cell? ⟨d,4,none⟩=some (.int .i64 0):=aA HC3.out.rd 4
  have fd:∀o,W3.frozen? ⟨d,o,none⟩=false:=fun o=>fH HC3.out.rd o
  have ld:=(gLt HC3.out.rd)
  have la:=(gLt HC3.out.ra)
  go_upto_if 43 with(go_at_call 17;go_must (refine(HP.out _ _ _ (by first|exact HI.out.1|exact HI.out.2.1|exact HI.out.2.2.1|exact HI.out.2.2.2.1|exact HI.out.2.2.2.2.1|exact HI.out.2.2.2.2.2) (by first|decide|exact HMp.out)).mono ?_;rintro e W ⟨rfl,rfl⟩))
  have HC4:Hid (CA w a b d #[.int .i64 r0,.int .i64 r1,.int .i64 r2,.int .i64 r3,.int .i64 r4,.int .i64 r5] #[.int .i64 F,.int .i64 Ce,.int .i64 mp,.int .i64 (Q r3 12),.int .i64 (Q r4 60),.string ⟨#[]⟩] ((W3.setCell ⟨d,3,none⟩ (.int .i64 (Q r3 12))).setCell ⟨d,4,none⟩ (.int .i64 (Q r4 60)))):=Hd ((HC3.out.set nad nbd HAB.out.2.2 3 _).set nad nbd HAB.out.2.2 4 _)
  generalize (W3.setCell ⟨d,3,none⟩ (.int .i64 (Q r3 12))).setCell ⟨d,4,none⟩ (.int .i64 (Q r4 60))=W4 at HC4 ⊢
  clear a3 a4 d3 d4 fd ld la
  have d4:W4.cell? ⟨d,4,none⟩=some (.int .i64 (Q r4 60)):=aA HC4.out.rd 4
  have fd:∀o,W4.frozen? ⟨d,o,none⟩=false:=fun o=>fH HC4.out.rd o
  have ld:=(gLt HC4.out.rd)
  go_cut [44] (fun q44 wx=>∃bd:Int,Hid (0≤bd∧bd≤60)∧Hid (CA w a b d #[.int .i64 r0,.int .i64 r1,.int .i64 r2,.int .i64 r3,.int .i64 r4,.int .i64 r5] #[.int .i64 F,.int .i64 Ce,.int .i64 mp,.int .i64 (Q r3 12),.int .i64 bd,.string ⟨#[]⟩] wx))
  case first=>
   go_wp2_with fail
   all_goals go_meet
   all_goals first
    |exact⟨0,Hd ⟨by decide,by decide⟩,Hd (HC4.out.set nad nbd HAB.out.2.2 4 _)⟩
    |exact⟨_,HQ4,HC4⟩
  case rest=>
   obtain⟨bd,HBB,HC5⟩:=hcut
   obtain⟨W5,hw5⟩:∃w,w=wc:=⟨_,rfl⟩
   subst hw5
   clear d4 fd ld
   rcases hQ5 with h5|h5|h5|h5
   ·have a5:W5.cell? ⟨a,5,none⟩=some (.int .i64 r5):=aA HC5.out.ra 5
    have d5:W5.cell? ⟨d,5,none⟩=some (.string ⟨#[]⟩):=aA HC5.out.rd 5
    have fd:∀o,W5.frozen? ⟨d,o,none⟩=false:=fun o=>fH HC5.out.rd o
    have ld:=(gLt HC5.out.rd)
    have la:=(gLt HC5.out.ra)
    go_wp2_with (go_at_call 17;go_must (refine(HP.out _ _ _ (by first|exact HI.out.1|exact HI.out.2.1|exact HI.out.2.2.1|exact HI.out.2.2.2.1|exact HI.out.2.2.2.2.1|exact HI.out.2.2.2.2.2) (by first|decide|exact HMp.out)).mono ?_;rintro e W ⟨rfl,rfl⟩))
    have HC6:Hid (CA w a b d #[.int .i64 r0,.int .i64 r1,.int .i64 r2,.int .i64 r3,.int .i64 r4,.int .i64 r5] #[.int .i64 F,.int .i64 Ce,.int .i64 mp,.int .i64 (Q r3 12),.int .i64 bd,.string ⟨#[108,111,119,101,115,116]⟩] ((W5.setCell ⟨d,5,none⟩ (.string ⟨#[108,111,119,101,115,116]⟩)).alloc (.cells #[.string ⟨#[108,111,119,101,115,116]⟩,.string ⟨#[101,108,115,101,40,108,101,115,115,40,108,111,119,101,115,116,44,32,48,46,48,49,41,44,32,57,46,57,57,41]⟩,.string ⟨#[99,117,116,40,115,101,99,111,110,100,44,32,50,53,48,41]⟩,.string ⟨#[105,102,40,109,111,114,101,40,50,41,44,32,109,97,120,40,108,111,119,101,115,116,44,32,53,46,48,48,41,44,32,102,114,111,109,40,98,111,98,48,41,41]⟩] 9))):=Hd ((HC5.out.set nad nbd HAB.out.2.2 5 _).below (aB bR _))
    generalize (W5.setCell ⟨d,5,none⟩ (.string ⟨#[108,111,119,101,115,116]⟩)).alloc (.cells #[.string ⟨#[108,111,119,101,115,116]⟩,.string ⟨#[101,108,115,101,40,108,101,115,115,40,108,111,119,101,115,116,44,32,48,46,48,49,41,44,32,57,46,57,57,41]⟩,.string ⟨#[99,117,116,40,115,101,99,111,110,100,44,32,50,53,48,41]⟩,.string ⟨#[105,102,40,109,111,114,101,40,50,41,44,32,109,97,120,40,108,111,119,101,115,116,44,32,53,46,48,48,41,44,32,102,114,111,109,40,98,111,98,48,41,41]⟩] 9)=W6 at HC6 ⊢
    clear a5 d5 fd ld la
    refine(HST.out _ HC6.out.bel).mono ?_
    rintro e W7 ⟨x,⟨xk,xn,xs,xA,xm,xc⟩,rfl,hx,gx,hb⟩
    have HX:=Hd hx
    have HGX:=Hd gx
    have HC7:=Hd (HC6.out.below hb)
    unfold EV.v
    clear hx gx hb
    go_wp2_with fail
    refine(HPR.out W7 x _ _ HGX.out HX.out).mono ?_
    rintro e W8 ⟨rfl,hb⟩
    have HC8:=Hd (HC7.out.below hb)
    clear hb
    have a5:W8.cell? ⟨a,5,none⟩=some (.int .i64 r5):=aA HC8.out.ra 5
    have d0:W8.cell? ⟨d,0,none⟩=some (.int .i64 F):=aA HC8.out.rd 0
    have d1:W8.cell? ⟨d,1,none⟩=some (.int .i64 Ce):=aA HC8.out.rd 1
    have d2:W8.cell? ⟨d,2,none⟩=some (.int .i64 mp):=aA HC8.out.rd 2
    have d3:W8.cell? ⟨d,3,none⟩=some (.int .i64 (Q r3 12)):=aA HC8.out.rd 3
    have d4:W8.cell? ⟨d,4,none⟩=some (.int .i64 bd):=aA HC8.out.rd 4
    have d5:W8.cell? ⟨d,5,none⟩=some (.string ⟨#[108,111,119,101,115,116]⟩):=aA HC8.out.rd 5
    have fd:∀o,W8.frozen? ⟨d,o,none⟩=false:=fun o=>fH HC8.out.rd o
    have ld:=(gLt HC8.out.rd)
    have la:=(gLt HC8.out.ra)
    have b0:W8.cell? ⟨b,0,none⟩=some (.int .i64 0):=aA HC8.out.rb 0
    have b1:W8.cell? ⟨b,1,none⟩=some (.int .i64 0):=aA HC8.out.rb 1
    have b2:W8.cell? ⟨b,2,none⟩=some (.int .i64 0):=aA HC8.out.rb 2
    have b3:W8.cell? ⟨b,3,none⟩=some (.int .i64 0):=aA HC8.out.rb 3
    have b4:W8.cell? ⟨b,4,none⟩=some (.int .i64 0):=aA HC8.out.rb 4
    have b5:W8.cell? ⟨b,5,none⟩=some (.string ⟨#[]⟩):=aA HC8.out.rb 5
    have fb:∀o,W8.frozen? ⟨b,o,none⟩=false:=fun o=>fH HC8.out.rb o
    have lb:=(gLt HC8.out.rb)
    have HT:Hid (bl (aM (tX 0))=⟨#[108,111,119,101,115,116]⟩):=Hd tX_0
    rcases uQ x with⟨e1,e2,hl⟩|e2
    ·rw[e1,e2]
     have HL:=Hd hl
     clear e1 e2 hl
     by_cases hp:r5.tmod 2=0
     ·go_wp2_with fail
      refine bodyPost_ret (v:=.agg #[.int .i64 F,.int .i64 Ce,.int .i64 mp,.int .i64 (Q r3 12),.int .i64 bd,.string (bl (aM x))]) (by simp[results,results5,go_sem, *]) rfl ⟨⟨F,Ce,mp,Q r3 12,bd,x⟩,rfl,⟨HB.out.1,HB.out.2.1,HB.out.2.2.1,HMB.out.1,HMB.out.2,HB.out.2.2.2.1,HB.out.2.2.2.2,HBB.out.1,HBB.out.2,HGX.out,HL.out⟩,mO HC8.out.bel HAB.out.2.1 HAB.out.2.2 _ _ _ _ _ _ _⟩
     ·go_wp2_with fail
      refine bodyPost_ret (v:=.agg #[.int .i64 F,.int .i64 Ce,.int .i64 mp,.int .i64 (Q r3 12),.int .i64 bd,.string ⟨#[108,111,119,101,115,116]⟩]) (by simp[results,results5,go_sem, *]) rfl ⟨⟨F,Ce,mp,Q r3 12,bd,tX 0⟩,by rw[Cf.v,HT.out],⟨HB.out.1,HB.out.2.1,HB.out.2.2.1,HMB.out.1,HMB.out.2,HB.out.2.2.2.1,HB.out.2.2.2.2,HBB.out.1,HBB.out.2,lS 0,lR 0⟩,eN HC8.out.bel HAB.out.2.1 _ _ _ _ _ _⟩
    ·rw[e2]
     clear e2
     generalize kZ x=ps
     by_cases hp:r5.tmod 2=0
     all_goals go_wp2_with fail
     all_goals refine bodyPost_ret (v:=.agg #[.int .i64 F,.int .i64 Ce,.int .i64 mp,.int .i64 (Q r3 12),.int .i64 bd,.string ⟨#[108,111,119,101,115,116]⟩]) (by simp[results,results5,go_sem, *]) rfl ⟨⟨F,Ce,mp,Q r3 12,bd,tX 0⟩,by rw[Cf.v,HT.out],⟨HB.out.1,HB.out.2.1,HB.out.2.2.1,HMB.out.1,HMB.out.2,HB.out.2.2.2.1,HB.out.2.2.2.2,HBB.out.1,HBB.out.2,lS 0,lR 0⟩,eN HC8.out.bel HAB.out.2.1 _ _ _ _ _ _⟩
   ·have a5:W5.cell? ⟨a,5,none⟩=some (.int .i64 r5):=aA HC5.out.ra 5
    have d5:W5.cell? ⟨d,5,none⟩=some (.string ⟨#[]⟩):=aA HC5.out.rd 5
    have fd:∀o,W5.frozen? ⟨d,o,none⟩=false:=fun o=>fH HC5.out.rd o
    have ld:=(gLt HC5.out.rd)
    have la:=(gLt HC5.out.ra)
    go_wp2_with (go_at_call 17;go_must (refine(HP.out _ _ _ (by first|exact HI.out.1|exact HI.out.2.1|exact HI.out.2.2.1|exact HI.out.2.2.2.1|exact HI.out.2.2.2.2.1|exact HI.out.2.2.2.2.2) (by first|decide|exact HMp.out)).mono ?_;rintro e W ⟨rfl,rfl⟩))
    have HC6:Hid (CA w a b d #[.int .i64 r0,.int .i64 r1,.int .i64 r2,.int .i64 r3,.int .i64 r4,.int .i64 r5] #[.int .i64 F,.int .i64 Ce,.int .i64 mp,.int .i64 (Q r3 12),.int .i64 bd,.string ⟨#[101,108,115,101,40,108,101,115,115,40,108,111,119,101,115,116,44,32,48,46,48,49,41,44,32,57,46,57,57,41]⟩] ((W5.setCell ⟨d,5,none⟩ (.string ⟨#[101,108,115,101,40,108,101,115,115,40,108,111,119,101,115,116,44,32,48,46,48,49,41,44,32,57,46,57,57,41]⟩)).alloc (.cells #[.string ⟨#[108,111,119,101,115,116]⟩,.string ⟨#[101,108,115,101,40,108,101,115,115,40,108,111,119,101,115,116,44,32,48,46,48,49,41,44,32,57,46,57,57,41]⟩,.string ⟨#[99,117,116,40,115,101,99,111,110,100,44,32,50,53,48,41]⟩,.string ⟨#[105,102,40,109,111,114,101,40,50,41,44,32,109,97,120,40,108,111,119,101,115,116,44,32,53,46,48,48,41,44,32,102,114,111,109,40,98,111,98,48,41,41]⟩] 9))):=Hd ((HC5.out.set nad nbd HAB.out.2.2 5 _).below (aB bR _))
    generalize (W5.setCell ⟨d,5,none⟩ (.string ⟨#[101,108,115,101,40,108,101,115,115,40,108,111,119,101,115,116,44,32,48,46,48,49,41,44,32,57,46,57,57,41]⟩)).alloc (.cells #[.string ⟨#[108,111,119,101,115,116]⟩,.string ⟨#[101,108,115,101,40,108,101,115,115,40,108,111,119,101,115,116,44,32,48,46,48,49,41,44,32,57,46,57,57,41]⟩,.string ⟨#[99,117,116,40,115,101,99,111,110,100,44,32,50,53,48,41]⟩,.string ⟨#[105,102,40,109,111,114,101,40,50,41,44,32,109,97,120,40,108,111,119,101,115,116,44,32,53,46,48,48,41,44,32,102,114,111,109,40,98,111,98,48,41,41]⟩] 9)=W6 at HC6 ⊢
    clear a5 d5 fd ld la
    refine(HST.out _ HC6.out.bel).mono ?_
    rintro e W7 ⟨x,⟨xk,xn,xs,xA,xm,xc⟩,rfl,hx,gx,hb⟩
    have HX:=Hd hx
    have HGX:=Hd gx
    have HC7:=Hd (HC6.out.below hb)
    unfold EV.v
    clear hx gx hb
    go_wp2_with fail
    refine(HPR.out W7 x _ _ HGX.out HX.out).mono ?_
    rintro e W8 ⟨rfl,hb⟩
    have HC8:=Hd (HC7.out.below hb)
    clear hb
    have a5:W8.cell? ⟨a,5,none⟩=some (.int .i64 r5):=aA HC8.out.ra 5
    have d0:W8.cell? ⟨d,0,none⟩=some (.int .i64 F):=aA HC8.out.rd 0
    have d1:W8.cell? ⟨d,1,none⟩=some (.int .i64 Ce):=aA HC8.out.rd 1
    have d2:W8.cell? ⟨d,2,none⟩=some (.int .i64 mp):=aA HC8.out.rd 2
    have d3:W8.cell? ⟨d,3,none⟩=some (.int .i64 (Q r3 12)):=aA HC8.out.rd 3
    have d4:W8.cell? ⟨d,4,none⟩=some (.int .i64 bd):=aA HC8.out.rd 4
    have d5:W8.cell? ⟨d,5,none⟩=some (.string ⟨#[101,108,115,101,40,108,101,115,115,40,108,111,119,101,115,116,44,32,48,46,48,49,41,44,32,57,46,57,57,41]⟩):=aA HC8.out.rd 5
    have fd:∀o,W8.frozen? ⟨d,o,none⟩=false:=fun o=>fH HC8.out.rd o
    have ld:=(gLt HC8.out.rd)
    have la:=(gLt HC8.out.ra)
    have b0:W8.cell? ⟨b,0,none⟩=some (.int .i64 0):=aA HC8.out.rb 0
    have b1:W8.cell? ⟨b,1,none⟩=some (.int .i64 0):=aA HC8.out.rb 1
    have b2:W8.cell? ⟨b,2,none⟩=some (.int .i64 0):=aA HC8.out.rb 2
    have b3:W8.cell? ⟨b,3,none⟩=some (.int .i64 0):=aA HC8.out.rb 3
    have b4:W8.cell? ⟨b,4,none⟩=some (.int .i64 0):=aA HC8.out.rb 4
    have b5:W8.cell? ⟨b,5,none⟩=some (.string ⟨#[]⟩):=aA HC8.out.rb 5
    have fb:∀o,W8.frozen? ⟨b,o,none⟩=false:=fun o=>fH HC8.out.rb o
    have lb:=(gLt HC8.out.rb)
    have HT:Hid (bl (aM (tX 1))=⟨#[101,108,115,101,40,108,101,115,115,40,108,111,119,101,115,116,44,32,48,46,48,49,41,44,32,57,46,57,57,41]⟩):=Hd tX_1
    rcases uQ x with⟨e1,e2,hl⟩|e2
    ·rw[e1,e2]
     have HL:=Hd hl
     clear e1 e2 hl
     by_cases hp:r5.tmod 2=0
     ·go_wp2_with fail
      refine bodyPost_ret (v:=.agg #[.int .i64 F,.int .i64 Ce,.int .i64 mp,.int .i64 (Q r3 12),.int .i64 bd,.string (bl (aM x))]) (by simp[results,results5,go_sem, *]) rfl ⟨⟨F,Ce,mp,Q r3 12,bd,x⟩,rfl,⟨HB.out.1,HB.out.2.1,HB.out.2.2.1,HMB.out.1,HMB.out.2,HB.out.2.2.2.1,HB.out.2.2.2.2,HBB.out.1,HBB.out.2,HGX.out,HL.out⟩,mO HC8.out.bel HAB.out.2.1 HAB.out.2.2 _ _ _ _ _ _ _⟩
     ·go_wp2_with fail
      refine bodyPost_ret (v:=.agg #[.int .i64 F,.int .i64 Ce,.int .i64 mp,.int .i64 (Q r3 12),.int .i64 bd,.string ⟨#[101,108,115,101,40,108,101,115,115,40,108,111,119,101,115,116,44,32,48,46,48,49,41,44,32,57,46,57,57,41]⟩]) (by simp[results,results5,go_sem, *]) rfl ⟨⟨F,Ce,mp,Q r3 12,bd,tX 1⟩,by rw[Cf.v,HT.out],⟨HB.out.1,HB.out.2.1,HB.out.2.2.1,HMB.out.1,HMB.out.2,HB.out.2.2.2.1,HB.out.2.2.2.2,HBB.out.1,HBB.out.2,lS 1,lR 1⟩,eN HC8.out.bel HAB.out.2.1 _ _ _ _ _ _⟩
    ·rw[e2]
     clear e2
     generalize kZ x=ps
     by_cases hp:r5.tmod 2=0
     all_goals go_wp2_with fail
     all_goals refine bodyPost_ret (v:=.agg #[.int .i64 F,.int .i64 Ce,.int .i64 mp,.int .i64 (Q r3 12),.int .i64 bd,.string ⟨#[101,108,115,101,40,108,101,115,115,40,108,111,119,101,115,116,44,32,48,46,48,49,41,44,32,57,46,57,57,41]⟩]) (by simp[results,results5,go_sem, *]) rfl ⟨⟨F,Ce,mp,Q r3 12,bd,tX 1⟩,by rw[Cf.v,HT.out],⟨HB.out.1,HB.out.2.1,HB.out.2.2.1,HMB.out.1,HMB.out.2,HB.out.2.2.2.1,HB.out.2.2.2.2,HBB.out.1,HBB.out.2,lS 1,lR 1⟩,eN HC8.out.bel HAB.out.2.1 _ _ _ _ _ _⟩
   ·have a5:W5.cell? ⟨a,5,none⟩=some (.int .i64 r5):=aA HC5.out.ra 5
    have d5:W5.cell? ⟨d,5,none⟩=some (.string ⟨#[]⟩):=aA HC5.out.rd 5
    have fd:∀o,W5.frozen? ⟨d,o,none⟩=false:=fun o=>fH HC5.out.rd o
    have ld:=(gLt HC5.out.rd)
    have la:=(gLt HC5.out.ra)
    go_wp2_with (go_at_call 17;go_must (refine(HP.out _ _ _ (by first|exact HI.out.1|exact HI.out.2.1|exact HI.out.2.2.1|exact HI.out.2.2.2.1|exact HI.out.2.2.2.2.1|exact HI.out.2.2.2.2.2) (by first|decide|exact HMp.out)).mono ?_;rintro e W ⟨rfl,rfl⟩))
    have HC6:Hid (CA w a b d #[.int .i64 r0,.int .i64 r1,.int .i64 r2,.int .i64 r3,.int .i64 r4,.int .i64 r5] #[.int .i64 F,.int .i64 Ce,.int .i64 mp,.int .i64 (Q r3 12),.int .i64 bd,.string ⟨#[99,117,116,40,115,101,99,111,110,100,44,32,50,53,48,41]⟩] ((W5.setCell ⟨d,5,none⟩ (.string ⟨#[99,117,116,40,115,101,99,111,110,100,44,32,50,53,48,41]⟩)).alloc (.cells #[.string ⟨#[108,111,119,101,115,116]⟩,.string ⟨#[101,108,115,101,40,108,101,115,115,40,108,111,119,101,115,116,44,32,48,46,48,49,41,44,32,57,46,57,57,41]⟩,.string ⟨#[99,117,116,40,115,101,99,111,110,100,44,32,50,53,48,41]⟩,.string ⟨#[105,102,40,109,111,114,101,40,50,41,44,32,109,97,120,40,108,111,119,101,115,116,44,32,53,46,48,48,41,44,32,102,114,111,109,40,98,111,98,48,41,41]⟩] 9))):=Hd ((HC5.out.set nad nbd HAB.out.2.2 5 _).below (aB bR _))
    generalize (W5.setCell ⟨d,5,none⟩ (.string ⟨#[99,117,116,40,115,101,99,111,110,100,44,32,50,53,48,41]⟩)).alloc (.cells #[.string ⟨#[108,111,119,101,115,116]⟩,.string ⟨#[101,108,115,101,40,108,101,115,115,40,108,111,119,101,115,116,44,32,48,46,48,49,41,44,32,57,46,57,57,41]⟩,.string ⟨#[99,117,116,40,115,101,99,111,110,100,44,32,50,53,48,41]⟩,.string ⟨#[105,102,40,109,111,114,101,40,50,41,44,32,109,97,120,40,108,111,119,101,115,116,44,32,53,46,48,48,41,44,32,102,114,111,109,40,98,111,98,48,41,41]⟩] 9)=W6 at HC6 ⊢
    clear a5 d5 fd ld la
    refine(HST.out _ HC6.out.bel).mono ?_
    rintro e W7 ⟨x,⟨xk,xn,xs,xA,xm,xc⟩,rfl,hx,gx,hb⟩
    have HX:=Hd hx
    have HGX:=Hd gx
    have HC7:=Hd (HC6.out.below hb)
    unfold EV.v
    clear hx gx hb
    go_wp2_with fail
    refine(HPR.out W7 x _ _ HGX.out HX.out).mono ?_
    rintro e W8 ⟨rfl,hb⟩
    have HC8:=Hd (HC7.out.below hb)
    clear hb
    have a5:W8.cell? ⟨a,5,none⟩=some (.int .i64 r5):=aA HC8.out.ra 5
    have d0:W8.cell? ⟨d,0,none⟩=some (.int .i64 F):=aA HC8.out.rd 0
    have d1:W8.cell? ⟨d,1,none⟩=some (.int .i64 Ce):=aA HC8.out.rd 1
    have d2:W8.cell? ⟨d,2,none⟩=some (.int .i64 mp):=aA HC8.out.rd 2
    have d3:W8.cell? ⟨d,3,none⟩=some (.int .i64 (Q r3 12)):=aA HC8.out.rd 3
    have d4:W8.cell? ⟨d,4,none⟩=some (.int .i64 bd):=aA HC8.out.rd 4
    have d5:W8.cell? ⟨d,5,none⟩=some (.string ⟨#[99,117,116,40,115,101,99,111,110,100,44,32,50,53,48,41]⟩):=aA HC8.out.rd 5
    have fd:∀o,W8.frozen? ⟨d,o,none⟩=false:=fun o=>fH HC8.out.rd o
    have ld:=(gLt HC8.out.rd)
    have la:=(gLt HC8.out.ra)
    have b0:W8.cell? ⟨b,0,none⟩=some (.int .i64 0):=aA HC8.out.rb 0
    have b1:W8.cell? ⟨b,1,none⟩=some (.int .i64 0):=aA HC8.out.rb 1
    have b2:W8.cell? ⟨b,2,none⟩=some (.int .i64 0):=aA HC8.out.rb 2
    have b3:W8.cell? ⟨b,3,none⟩=some (.int .i64 0):=aA HC8.out.rb 3
    have b4:W8.cell? ⟨b,4,none⟩=some (.int .i64 0):=aA HC8.out.rb 4
    have b5:W8.cell? ⟨b,5,none⟩=some (.string ⟨#[]⟩):=aA HC8.out.rb 5
    have fb:∀o,W8.frozen? ⟨b,o,none⟩=false:=fun o=>fH HC8.out.rb o
    have lb:=(gLt HC8.out.rb)
    have HT:Hid (bl (aM (tX 2))=⟨#[99,117,116,40,115,101,99,111,110,100,44,32,50,53,48,41]⟩):=Hd tX_2
    rcases uQ x with⟨e1,e2,hl⟩|e2
    ·rw[e1,e2]
     have HL:=Hd hl
     clear e1 e2 hl
     by_cases hp:r5.tmod 2=0
     ·go_wp2_with fail
      refine bodyPost_ret (v:=.agg #[.int .i64 F,.int .i64 Ce,.int .i64 mp,.int .i64 (Q r3 12),.int .i64 bd,.string (bl (aM x))]) (by simp[results,results5,go_sem, *]) rfl ⟨⟨F,Ce,mp,Q r3 12,bd,x⟩,rfl,⟨HB.out.1,HB.out.2.1,HB.out.2.2.1,HMB.out.1,HMB.out.2,HB.out.2.2.2.1,HB.out.2.2.2.2,HBB.out.1,HBB.out.2,HGX.out,HL.out⟩,mO HC8.out.bel HAB.out.2.1 HAB.out.2.2 _ _ _ _ _ _ _⟩
     ·go_wp2_with fail
      refine bodyPost_ret (v:=.agg #[.int .i64 F,.int .i64 Ce,.int .i64 mp,.int .i64 (Q r3 12),.int .i64 bd,.string ⟨#[99,117,116,40,115,101,99,111,110,100,44,32,50,53,48,41]⟩]) (by simp[results,results5,go_sem, *]) rfl ⟨⟨F,Ce,mp,Q r3 12,bd,tX 2⟩,by rw[Cf.v,HT.out],⟨HB.out.1,HB.out.2.1,HB.out.2.2.1,HMB.out.1,HMB.out.2,HB.out.2.2.2.1,HB.out.2.2.2.2,HBB.out.1,HBB.out.2,lS 2,lR 2⟩,eN HC8.out.bel HAB.out.2.1 _ _ _ _ _ _⟩
    ·rw[e2]
     clear e2
     generalize kZ x=ps
     by_cases hp:r5.tmod 2=0
     all_goals go_wp2_with fail
     all_goals refine bodyPost_ret (v:=.agg #[.int .i64 F,.int .i64 Ce,.int .i64 mp,.int .i64 (Q r3 12),.int .i64 bd,.string ⟨#[99,117,116,40,115,101,99,111,110,100,44,32,50,53,48,41]⟩]) (by simp[results,results5,go_sem, *]) rfl ⟨⟨F,Ce,mp,Q r3 12,bd,tX 2⟩,by rw[Cf.v,HT.out],⟨HB.out.1,HB.out.2.1,HB.out.2.2.1,HMB.out.1,HMB.out.2,HB.out.2.2.2.1,HB.out.2.2.2.2,HBB.out.1,HBB.out.2,lS 2,lR 2⟩,eN HC8.out.bel HAB.out.2.1 _ _ _ _ _ _⟩
   ·have a5:W5.cell? ⟨a,5,none⟩=some (.int .i64 r5):=aA HC5.out.ra 5
    have d5:W5.cell? ⟨d,5,none⟩=some (.string ⟨#[]⟩):=aA HC5.out.rd 5
    have fd:∀o,W5.frozen? ⟨d,o,none⟩=false:=fun o=>fH HC5.out.rd o
    have ld:=(gLt HC5.out.rd)
    have la:=(gLt HC5.out.ra)
    go_wp2_with (go_at_call 17;go_must (refine(HP.out _ _ _ (by first|exact HI.out.1|exact HI.out.2.1|exact HI.out.2.2.1|exact HI.out.2.2.2.1|exact HI.out.2.2.2.2.1|exact HI.out.2.2.2.2.2) (by first|decide|exact HMp.out)).mono ?_;rintro e W ⟨rfl,rfl⟩))
    have HC6:Hid (CA w a b d #[.int .i64 r0,.int .i64 r1,.int .i64 r2,.int .i64 r3,.int .i64 r4,.int .i64 r5] #[.int .i64 F,.int .i64 Ce,.int .i64 mp,.int .i64 (Q r3 12),.int .i64 bd,.string ⟨#[105,102,40,109,111,114,101,40,50,41,44,32,109,97,120,40,108,111,119,101,115,116,44,32,53,46,48,48,41,44,32,102,114,111,109,40,98,111,98,48,41,41]⟩] ((W5.setCell ⟨d,5,none⟩ (.string ⟨#[105,102,40,109,111,114,101,40,50,41,44,32,109,97,120,40,108,111,119,101,115,116,44,32,53,46,48,48,41,44,32,102,114,111,109,40,98,111,98,48,41,41]⟩)).alloc (.cells #[.string ⟨#[108,111,119,101,115,116]⟩,.string ⟨#[101,108,115,101,40,108,101,115,115,40,108,111,119,101,115,116,44,32,48,46,48,49,41,44,32,57,46,57,57,41]⟩,.string ⟨#[99,117,116,40,115,101,99,111,110,100,44,32,50,53,48,41]⟩,.string ⟨#[105,102,40,109,111,114,101,40,50,41,44,32,109,97,120,40,108,111,119,101,115,116,44,32,53,46,48,48,41,44,32,102,114,111,109,40,98,111,98,48,41,41]⟩] 9))):=Hd ((HC5.out.set nad nbd HAB.out.2.2 5 _).below (aB bR _))
    generalize (W5.setCell ⟨d,5,none⟩ (.string ⟨#[105,102,40,109,111,114,101,40,50,41,44,32,109,97,120,40,108,111,119,101,115,116,44,32,53,46,48,48,41,44,32,102,114,111,109,40,98,111,98,48,41,41]⟩)).alloc (.cells #[.string ⟨#[108,111,119,101,115,116]⟩,.string ⟨#[101,108,115,101,40,108,101,115,115,40,108,111,119,101,115,116,44,32,48,46,48,49,41,44,32,57,46,57,57,41]⟩,.string ⟨#[99,117,116,40,115,101,99,111,110,100,44,32,50,53,48,41]⟩,.string ⟨#[105,102,40,109,111,114,101,40,50,41,44,32,109,97,120,40,108,111,119,101,115,116,44,32,53,46,48,48,41,44,32,102,114,111,109,40,98,111,98,48,41,41]⟩] 9)=W6 at HC6 ⊢
    clear a5 d5 fd ld la
    refine(HST.out _ HC6.out.bel).mono ?_
    rintro e W7 ⟨x,⟨xk,xn,xs,xA,xm,xc⟩,rfl,hx,gx,hb⟩
    have HX:=Hd hx
    have HGX:=Hd gx
    have HC7:=Hd (HC6.out.below hb)
    unfold EV.v
    clear hx gx hb
    go_wp2_with fail
    refine(HPR.out W7 x _ _ HGX.out HX.out).mono ?_
    rintro e W8 ⟨rfl,hb⟩
    have HC8:=Hd (HC7.out.below hb)
    clear hb
    have a5:W8.cell? ⟨a,5,none⟩=some (.int .i64 r5):=aA HC8.out.ra 5
    have d0:W8.cell? ⟨d,0,none⟩=some (.int .i64 F):=aA HC8.out.rd 0
    have d1:W8.cell? ⟨d,1,none⟩=some (.int .i64 Ce):=aA HC8.out.rd 1
    have d2:W8.cell? ⟨d,2,none⟩=some (.int .i64 mp):=aA HC8.out.rd 2
    have d3:W8.cell? ⟨d,3,none⟩=some (.int .i64 (Q r3 12)):=aA HC8.out.rd 3
    have d4:W8.cell? ⟨d,4,none⟩=some (.int .i64 bd):=aA HC8.out.rd 4
    have d5:W8.cell? ⟨d,5,none⟩=some (.string ⟨#[105,102,40,109,111,114,101,40,50,41,44,32,109,97,120,40,108,111,119,101,115,116,44,32,53,46,48,48,41,44,32,102,114,111,109,40,98,111,98,48,41,41]⟩):=aA HC8.out.rd 5
    have fd:∀o,W8.frozen? ⟨d,o,none⟩=false:=fun o=>fH HC8.out.rd o
    have ld:=(gLt HC8.out.rd)
    have la:=(gLt HC8.out.ra)
    have b0:W8.cell? ⟨b,0,none⟩=some (.int .i64 0):=aA HC8.out.rb 0
    have b1:W8.cell? ⟨b,1,none⟩=some (.int .i64 0):=aA HC8.out.rb 1
    have b2:W8.cell? ⟨b,2,none⟩=some (.int .i64 0):=aA HC8.out.rb 2
    have b3:W8.cell? ⟨b,3,none⟩=some (.int .i64 0):=aA HC8.out.rb 3
    have b4:W8.cell? ⟨b,4,none⟩=some (.int .i64 0):=aA HC8.out.rb 4
    have b5:W8.cell? ⟨b,5,none⟩=some (.string ⟨#[]⟩):=aA HC8.out.rb 5
    have fb:∀o,W8.frozen? ⟨b,o,none⟩=false:=fun o=>fH HC8.out.rb o
    have lb:=(gLt HC8.out.rb)
    have HT:Hid (bl (aM (tX 3))=⟨#[105,102,40,109,111,114,101,40,50,41,44,32,109,97,120,40,108,111,119,101,115,116,44,32,53,46,48,48,41,44,32,102,114,111,109,40,98,111,98,48,41,41]⟩):=Hd tX_3
    rcases uQ x with⟨e1,e2,hl⟩|e2
    ·rw[e1,e2]
     have HL:=Hd hl
     clear e1 e2 hl
     by_cases hp:r5.tmod 2=0
     ·go_wp2_with fail
      refine bodyPost_ret (v:=.agg #[.int .i64 F,.int .i64 Ce,.int .i64 mp,.int .i64 (Q r3 12),.int .i64 bd,.string (bl (aM x))]) (by simp[results,results5,go_sem, *]) rfl ⟨⟨F,Ce,mp,Q r3 12,bd,x⟩,rfl,⟨HB.out.1,HB.out.2.1,HB.out.2.2.1,HMB.out.1,HMB.out.2,HB.out.2.2.2.1,HB.out.2.2.2.2,HBB.out.1,HBB.out.2,HGX.out,HL.out⟩,mO HC8.out.bel HAB.out.2.1 HAB.out.2.2 _ _ _ _ _ _ _⟩
     ·go_wp2_with fail
      refine bodyPost_ret (v:=.agg #[.int .i64 F,.int .i64 Ce,.int .i64 mp,.int .i64 (Q r3 12),.int .i64 bd,.string ⟨#[105,102,40,109,111,114,101,40,50,41,44,32,109,97,120,40,108,111,119,101,115,116,44,32,53,46,48,48,41,44,32,102,114,111,109,40,98,111,98,48,41,41]⟩]) (by simp[results,results5,go_sem, *]) rfl ⟨⟨F,Ce,mp,Q r3 12,bd,tX 3⟩,by rw[Cf.v,HT.out],⟨HB.out.1,HB.out.2.1,HB.out.2.2.1,HMB.out.1,HMB.out.2,HB.out.2.2.2.1,HB.out.2.2.2.2,HBB.out.1,HBB.out.2,lS 3,lR 3⟩,eN HC8.out.bel HAB.out.2.1 _ _ _ _ _ _⟩
    ·rw[e2]
     clear e2
     generalize kZ x=ps
     by_cases hp:r5.tmod 2=0
     all_goals go_wp2_with fail
     all_goals refine bodyPost_ret (v:=.agg #[.int .i64 F,.int .i64 Ce,.int .i64 mp,.int .i64 (Q r3 12),.int .i64 bd,.string ⟨#[105,102,40,109,111,114,101,40,50,41,44,32,109,97,120,40,108,111,119,101,115,116,44,32,53,46,48,48,41,44,32,102,114,111,109,40,98,111,98,48,41,41]⟩]) (by simp[results,results5,go_sem, *]) rfl ⟨⟨F,Ce,mp,Q r3 12,bd,tX 3⟩,by rw[Cf.v,HT.out],⟨HB.out.1,HB.out.2.1,HB.out.2.2.1,HMB.out.1,HMB.out.2,HB.out.2.2.2.1,HB.out.2.2.2.2,HBB.out.1,HBB.out.2,lS 3,lR 3⟩,eN HC8.out.bel HAB.out.2.1 _ _ _ _ _ _⟩
theorem aJs (r0 r1 r2 r3 r4 r5:Int) (hI:I64 r0∧I64 r1∧I64 r2∧I64 r3∧I64 r4∧I64 r5) (A:Option Addr) (c n:Nat) (xs:List Int) (hn:xs.length=n) (w:World) (hat:dZ.At w A c xs) (hx:∀x∈xs,I64 x):
 Calls prog 5 #[.agg #[.int .i64 r0,.int .i64 r1,.int .i64 r2,.int .i64 r3,.int .i64 r4,.int .i64 r5],.slice A n c] w (aKu w):=by
 obtain⟨p0,p0'⟩:=iP r0 1500 (by decide)
 obtain⟨p1,p1'⟩:=iP r1 2000 (by decide)
 obtain⟨p3,p3'⟩:=iP r3 12 (by decide)
 obtain⟨p4,p4'⟩:=iP r4 60 (by decide)
 obtain⟨p5,p5'⟩:=iP r5 4 (by decide)
 obtain⟨p2,p2'⟩:=iP r2 (1+dG r0 1500+dG r1 2000+1) (by omega)
 exact aE8 r0 r1 r2 r3 r4 r5 (1+dG r0 1500) (1+dG r0 1500+dG r1 2000) (1+dG r0 1500+dG r1 2000+1) dG A c n w hI (Hd (fun c n W h1 h2=>zI c n W h1 h2))
  (Mem.w64 (by omega) (by omega)) (IntWalk.i64_in _ ⟨by omega,by omega⟩) (Mem.w64 (by omega) (by omega)) (by omega) (Hd ⟨p2,by omega⟩) (Hd (by omega)) (Hd ⟨p4,by omega⟩) (by omega) (Hd ⟨by omega,by omega,by omega,p3,by omega⟩)
  (Hd (fun W hW=>aC0 A c n xs hn W (hat.below hW) hx)) (Hd (fun W x v S g h=>yZ g (aGw g) S v W h))
end Go.Proofs.YtlibhkkckgkkkaaGreatDoor.Tf
namespace Go.Proofs.YtlibhkkckgkkkaaGreatDoor.Tf
open Go.RowKit Go.Proofs.YtlibhkkckgkkkaaGreatDoor.Mem Go.Proofs.YtlibhkkckgkkkaaGreatDoor.Boo Go.Proofs.Tryz
def dA2:En (Int×Int):=⟨fun x=>[.int .i64 x.1,.int .i64 x.2],2,by omega,fun _=>rfl,fun x u hu=>by simp at hu;rcases hu with rfl|rfl <;> rfl⟩
theorem aOb {w:World} {A:Option Addr} {c:Nat} {xs:List (Int×Int)} (h:dA2.At w A c xs) (k:Nat) (x:Int×Int) (hx:xs[k]?=some x):
 ∃b off,A=some ⟨b,off,none⟩∧b<w.heap.size∧w.cell? ⟨b,off+k * 2,none⟩=some (.int .i64 x.1)∧w.cell? ⟨b,off+k * 2+1,none⟩=some (.int .i64 x.2):=by
 obtain⟨b,off,hA,hlt,hc⟩:=h.get k x hx
 exact⟨b,off,hA,hlt,hc 0 (by decide),hc 1 (by decide)⟩
def sE (L:List aW) (s:ByteArray) (k:Nat):Bool:=(L.take k).any (fun x=>eqS x.s s)
theorem aEc {L:List aW} {s:ByteArray} {k:Nat} {x:aW} (hx:L[k]?=some x):sE L s (k+1)=(sE L s k || eqS x.s s):=by
 obtain⟨h,rfl⟩:=List.getElem?_eq_some_iff.1 hx
 unfold sE
 rw[List.take_succ_eq_append_getElem h,List.any_append]
 simp
structure iG (L:List aW):Prop where
 len:L.length≤8
 sel:∀x∈L,(∃k,k<60∧x.s=aK k)∧1≤x.p∧x.p≤3000
 nd:(L.map (·.s)).Nodup
theorem aEe {L:List aW} {k:Nat} {p:Int} (h:iG L) (hl:L.length<8) (hk:k<60) (hn:sE L (aK k) L.length=false) (p1:1≤p) (p2:p≤3000):iG (L++[⟨aK k,p⟩]):=by
 refine⟨by simp;omega,fun x hx=>?_,?_⟩
 ·rcases List.mem_append.1 hx with hx|hx
  ·exact h.sel x hx
  ·obtain rfl:=List.mem_singleton.1 hx
   exact⟨⟨k,hk,rfl⟩,p1,p2⟩
 ·rw[List.map_append,List.nodup_append]
  refine⟨h.nd,by simp,fun a ha b hb=>?_⟩
  obtain⟨x,hx,rfl⟩:=List.mem_map.1 ha
  simp at hb
  subst hb
  unfold sE at hn
  rw[List.take_length,List.any_eq_false] at hn
  exact aI1 (by simpa using hn x hx)
theorem aDx {w wq W w3:World} {A:Option Addr} {c:Nat} {L:List aW} (hb:Below w.heap.size w wq) (hW:Below wq.heap.size wq W) (ho:dF.Own 44 wq w.heap.size A c L) (hg:W.grownBy w3 (Value.slice A L.length c).ownBlock):Below w.heap.size w w3:=
 (aD hb hW).grown hg (Nat.le_trans hb.size hW.size) (fun r hr=>(ho.row r hr).1)
def aOt (w:World) (e:Ending) (w':World):Prop:=∃(A:Option Addr) (c:Nat) (L:List aW),e=.returned (.slice A L.length c)∧dF.Own 44 w' w.heap.size A c L∧iG L∧Below w.heap.size w w'
theorem aHl (RA:Option Addr) (rc n:Nat) (rs:List (Int×Int)) (hn:rs.length=n) (w:World) (hat:dA2.At w RA rc rs) (hI:∀x∈rs,I64 x.1∧I64 x.2):Calls prog 6 #[.slice RA n rc] w (aOt w):=by
 obtain⟨i0,hi,iz,isz,iby⟩:=info_parts zW
 have HAT:=Hd hat
 have HN:=Hd hn
 have HI:=Hd hI
 have HMX:Hid (n≤9223372036854775807):=Hd (by have:=hat.le;have:=hat.max;omega)
 clear hat hn hI
 go_enter func6,ntmps6
 go_wp2_with fail
 go_loopw [3,4] (fun ov iv wr=>∃(i m:Nat) (A:Option Addr) (c:Nat) (L:List aW),i≤n∧iv=.int .i64 i∧ov=.slice A m c∧Hid (L.length=m)∧Hid (dF.Own 44 wr w.heap.size A c L)∧Hid (iG L)∧Hid (Below w.heap.size w wr)) (fun _ iv _=>n-(intOf iv).toNat)
 case atStart=>exact⟨0,0,none,0,[],Nat.zero_le _,rfl,rfl,Hd rfl,Hd (En.Own.none_ _ _ _),Hd ⟨by decide,(fun x h=>by cases h),(by simp)⟩,Hd blw⟩
 case round=>
  obtain⟨i,m,A,c,L,him,rfl,rfl,HLM,HOW,HGD,HB⟩:=hrel
  obtain⟨V,hv⟩:∃x,x=wr:=⟨_,rfl⟩
  subst hv
  by_cases hlt:i<n
  ·have HLT:=Hd hlt
   have HZI:Hid (wrap64 ((i:Int)+1)=((i+1:Nat):Int)):=Hd (by rw[Mem.w64 (by omega) (by have:=HMX.out;omega)];omega)
   have zlt:(i:Int)<(n:Int):=by omega
   by_cases hm8:m<8
   ·have zm:(m:Int)<8:=by omega
    have HM8:=Hd hm8
    have hxi:rs[i]?=some (rs[i]'(by have:=HN.out;omega)):=gE _
    obtain⟨b,off,rfl,hbl,c0,c1⟩:=aOb (HAT.out.below HB.out) i _ hxi
    have hIx:=HI.out _ (List.mem_of_getElem? hxi)
    generalize rs[i]'(by have:=HN.out;omega)=x at c0 c1 hxi hIx
    obtain⟨x1,x2⟩:=x
    dsimp only at c0 c1 hIx
    obtain⟨q0,q0'⟩:=iP x1 60 (by decide)
    obtain⟨K,hK⟩:=Int.eq_ofNat_of_zero_le q0
    have hK60:K<60:=by omega
    obtain⟨s,hs⟩:∃s,aK K=s:=⟨_,rfl⟩
    have HSE:Hid (∀W,Calls prog 20 #[.int .i64 x1] W (Ret (.string s) W)):=Hd (fun W=>by rw[←hs];exact lV K hK60 x1 hIx.1 hK W)
    have HS:Hid (K<60∧aK K=s):=Hd ⟨hK60,hs⟩
    obtain⟨p0,p0'⟩:=iP x2 3000 (by decide)
    obtain⟨q,hq⟩:∃q,dG x2 3000=q:=⟨_,rfl⟩
    have HPI:Hid (∀W,Calls prog 21 #[.int .i64 x2,.int .i64 3000] W fun e w'=>e=.returned (.int .i64 q)∧W=w'):=Hd (fun W=>by rw[←hq];exact zH x2 3000 W hIx.2 (by decide))
    rw[hq] at p0 p0'
    obtain⟨p,hp⟩:∃p,1+q=p:=⟨_,rfl⟩
    have HPB:Hid (1≤p∧p≤3000):=Hd ⟨by omega,by omega⟩
    have HW1:Hid (wrap64 (1+q)=p):=Hd (by rw[Mem.w64 (by omega) (by omega)];exact hp)
    clear hxi hIx q0 q0' hK hK60 hs p0 p0' hq hp hlt hm8
    go_wp2_with (go_at_call 20;go_must (refine rC w (HSE.out _) ?_;intro W2 hb HB2;have HR2:Hid (Below V.heap.size V W2):=Hd hb;have e1:W2.cell? ⟨b,off+i * 2+1,none⟩=some (.int .i64 x2):=aC hb c1;clear hb))
    go_loopw [6,7] (fun hv kv wq=>∃(k:Nat) (h:Bool),k≤m∧kv=.int .i64 k∧hv=.bool h∧Hid (h=sE L s k)∧Hid (Below W2.heap.size W2 wq)) (fun _ kv _=>m-(intOf kv).toNat)
    case atStart=>exact⟨0,false,Nat.zero_le _,rfl,rfl,Hd rfl,Hd bR⟩
    case round=>
     obtain⟨k,h,hkm,rfl,rfl,HH,HBq⟩:=hrel
     by_cases hlk:k<m
     ·have HLK:=Hd hlk
      have hyk:L[k]?=some (L[k]'(by have:=HLM.out;omega)):=gE _
      have hoa:dF.At V A c L:=HOW.out.at_
      obtain⟨g,go,rfl,hgl,d0,d1⟩:=lG ((hoa.below HR2.out).below HBq.out) k _ hyk
      generalize L[k]'(by have:=HLM.out;omega)=y at d0 d1 hyk
      obtain⟨ys,yp⟩:=y
      dsimp only at d0 d1
      have hst:=aEc (s:=s) hyk
      have HZK:Hid (wrap64 ((k:Int)+1)=((k+1:Nat):Int)):=Hd (by rw[Mem.w64 (by omega) (by have:=HM8.out;omega)];omega)
      have zk:(k:Int)<(m:Int):=by omega
      have HST:Hid (sE L s (k+1)=(h || eqS ys s)):=Hd (by rw[hst,HH.out])
      clear hyk hoa hst hlk
      cases h with
      |true=>
       go_wp2_with fail
       go_roundw
       case rel=>exact⟨k+1,true,HLK.out,(by first|rw[HZK.out]|rfl|simp),rfl,Hd (by rw[HST.out];rfl),HBq⟩
       case measure=>(try rw[HZK.out]);exact fK HLK.out
      |false=>
       go_wp2_with fail
       go_roundw
       case rel=>exact⟨k+1,eqS ys s,HLK.out,(by first|rw[HZK.out]|rfl|simp),rfl,Hd (by rw[HST.out];rfl),HBq⟩
       case measure=>(try rw[HZK.out]);exact fK HLK.out
     ·obtain rfl:k=m:=by omega
      have HB4:Hid (Below w.heap.size w wr):=Hd (aD HB2.out HBq.out)
      have HR4:Hid (Below V.heap.size V wr):=Hd (aD HR2.out HBq.out)
      have e2:wr.cell? ⟨b,off+i * 2+1,none⟩=some (.int .i64 x2):=aC HBq.out e1
      have hw1:=HW1.out
      clear hlk e1
      cases h with
      |true=>
       go_wp2_with fail
       go_roundw
       case rel=>exact⟨i+1,k,_,_,L,HLT.out,(by first|rw[HZI.out]|rfl|simp),rfl,HLM,Hd (HOW.out.below HR4.out),HGD,HB4⟩
       case measure=>(try rw[HZI.out]);exact fK HLT.out
      |false=>
       have HG2:Hid (iG (L++[⟨s,p⟩])):=Hd (by
        have h1:=HH.out
        rw[←HS.out.2] at h1 ⊢
        exact aEe HGD.out (by rw[HLM.out];exact HM8.out) HS.out.1 (by rw[HLM.out];exact h1.symm) HPB.out.1 HPB.out.2)
       have H63:Hid (L.length+1≤9223372036854775807):=Hd (by rw[HLM.out];have:=HM8.out;omega)
       have HBYT:Hid ((L.length+1) * 24≤140737488355328):=Hd (by rw[HLM.out];have:=HM8.out;omega)
       have HO4:Hid (dF.Own 44 wr w.heap.size A c L):=Hd (HOW.out.below HR4.out)
       go_wp2_with (first
        |(go_at_call 21;go_must (refine(HPI.out _).mono ?_;rintro e wq1 ⟨rfl,rfl⟩))
        |(at_builtin;refine aV dF _ rfl _ _ 29 rfl w.heap.size 44 i0 _ 24 underlying29 hi iz isz iby rfl A c _ L rfl HLM.out.symm ?_ _ 1 1 [⟨s,p⟩] rfl rfl ?_ ?_ ?_ ?_ ?_;(exact HO4.out.below blw);(exact eU dF wr 44 _ ⟨s,p⟩ rfl);(exact H63.out);(exact HBYT.out);(exact Nat.le_trans HB4.out.size (show Below wr.heap.size wr _ from blw).size);(intro A3 c3 w3 hown hg hat;have HOW3:=Hd hown;have HB5:Hid (Below w.heap.size w w3):=Hd (aDx HB4.out blw HO4.out hg);clear hown hg hat)))
       go_roundw
       case rel=>exact⟨i+1,L.length+1,A3,c3,L++[(⟨s,p⟩:aW)],HLT.out,(by first|rw[HZI.out]|rfl|simp),rfl,Hd (by simp),HOW3,HG2,HB5⟩
       case measure=>(try rw[HZI.out]);exact fK HLT.out
   ·have zm:¬(m:Int)<8:=by omega
    clear hlt hm8
    go_wp2_with fail
    go_ret
    exact⟨A,c,L,by rw[HLM.out];rfl,HOW.out,HGD.out,HB.out⟩
  ·obtain rfl:i=n:=by omega
   clear hlt
   go_wp2_with fail
   go_ret
   exact⟨A,c,L,by rw[HLM.out];rfl,HOW.out,HGD.out,HB.out⟩
end Go.Proofs.YtlibhkkckgkkkaaGreatDoor.Tf
