/- Part of the proof of TopFeeds: HepB HepC HepD HepE HepF QuA. -/
import Derived.Test.YtlibhkkckgkkkaaGreatDoorZBA
import Derived.Test.YtlibhkkckgkkkaaGreatDoorZBC
set_option maxHeartbeats 2000000
set_option maxRecDepth 100000
namespace Go.Proofs.YtlibhkkckgkkkaaGreatDoor.Tf
open Go.RowKit Go.Proofs.YtlibhkkckgkkkaaGreatDoor.Mem Go.Proofs.YtlibhkkckgkkkaaGreatDoor.Boo
section
variable {P:Program} {w:World} {t kt et:TypeId}
theorem xD (k:Int) (v:Value) (born:Nat):Instr.findNow (.int .i64) (.int .i64 k) [(⟨.int .i64 k,v,born⟩:MapEntry)] 0=some (some (0,v)):=by
 simp only[Instr.findNow,Instr.sameNow,if_true,beq_self_eq_true]
theorem aGs (ht:P.underlying t=some (.map kt et)) (hk:P.underlying kt=some (.int .i64)) {r clk born:Nat} {k:Int} {u:Value} (hb:w.heap[r]?=some (.map #[⟨.int .i64 k,u,born⟩] clk)) (v:Value):
 (Instr.mapUpdate t (.map (some r)) (.int .i64 k) v).run P w=.ok () (qG w r #[⟨.int .i64 k,v,born⟩] clk):=by
 have hf:=MapKept.run_findKey (w:=w) hk (xD k u born)
 have hs:Instr.sameBits 10000 (.int .i64 k) (.int .i64 k)=true:=by simp[Instr.sameBits]
 simp[Instr.mapUpdate,Sem.run_bind,run_underlying ht,Result.andThen,MapKept.run_getObj_map hb,hZ hk,hf,MapKept.run_setObj_map _ hb,Instr.keyThatStays,hs]
 rfl
theorem aNp {ty:TypeId} (ht:P.underlying t=some (.map kt et)) (hk:P.underlying kt=some (.int .i64)) {r clk born:Nat} {k:Int} {u:Value} (hb:w.heap[r]?=some (.map #[⟨.int .i64 k,u,born⟩] clk)):
 (Builtin.delete_ #[t,kt] ty #[.map (some r),.int .i64 k]).run P w=.ok (.tuple #[]) (qG w r #[] clk):=by
 have hf:=MapKept.run_findKey (w:=w) hk (xD k u born)
 simp[Builtin.delete_,run_underlying ht,MapKept.run_getObj_map hb,hZ hk,hf,MapKept.run_setObj_map _ hb,Result.andThen]
 rfl
theorem aJg {ty:TypeId} (ht:P.underlying t=some (.map kt et)) (hk:P.underlying kt=some (.int .i64)) {r clk:Nat} {k:Int} (hb:w.heap[r]?=some (.map #[] clk)):
 (Builtin.delete_ #[t,kt] ty #[.map (some r),.int .i64 k]).run P w=.ok (.tuple #[]) (qG w r #[] clk):=by
 have hf:=MapKept.run_findKey (w:=w) hk (lC (k:=k) (#[]:Array MapEntry).toList (by simp) 0)
 simp[Builtin.delete_,run_underlying ht,MapKept.run_getObj_map hb,hZ hk,hf,MapKept.run_setObj_map _ hb,Result.andThen]
 try rfl
end
end Go.Proofs.YtlibhkkckgkkkaaGreatDoor.Tf
namespace Go.Proofs.YtlibhkkckgkkkaaGreatDoor.Tf
open Go.RowKit Go.Proofs.YtlibhkkckgkkkaaGreatDoor.Mem Go.Proofs.YtlibhkkckgkkkaaGreatDoor.Boo Go.Proofs.Tryz
structure cR (hb pb ib B:Nat) (w w':World):Prop where
 below:Below B w w'
 other:∀i o,w.heap[i]?=some o→i≠hb→i≠pb→i≠ib→w'.heap[i]?=some o
 size:w.heap.size≤w'.heap.size
structure HpI (hb pb B ib c:Nat) (p:Int) (w:World):Prop where
 box:w.heap[hb]?=some (.cells #[.slice (some ⟨ib,0,none⟩) 1 c,.map (some pb),.int .i64 4] 228 (0,0))
 row:dIt.Own 253 w B (some ⟨ib,0,none⟩) c [(0,p)]
 map:∃born clk,w.heap[pb]?=some (.map #[⟨.int .i64 0,.int .i64 0,born⟩] clk)
theorem rR {α:Type} {d:En α} {e:TypeId} {W:World} {base c:Nat} {A:Option Addr} {xs:List α} (h:d.Own e W base A c xs) {pb clk:Nat} {es:Array MapEntry} (hp:W.heap[pb]?=some (.map es clk)) (es':Array MapEntry) (clk':Nat):d.Own e (qG W pb es' clk') base A c xs:=by
 refine h.kept (row:=some pb) ⟨rfl,rfl,rfl,by show _≤(W.heap.setIfInBounds pb _).size;simp,fun k _ hk=>eD W pb es' clk' k (fun e=>hk (by simp[e]))⟩ (.inr ?_)
 intro he
 obtain⟨cur,fz,hg⟩:=Lib.ownsRow_kind h pb he
 rw[hg] at hp
 cases hp
theorem setX {hb pb B ib c:Nat} {y:Int×Int} (p:Int) {es:Array MapEntry} {clk:Nat} {w:World} {V:Array Value} (hBb:B≤hb) (h1:w.heap[hb]?=some (.cells V 228 (0,0))) (h2:dIt.Own 253 w B (some ⟨ib,0,none⟩) c [y]) (h3:w.heap[pb]?=some (.map es clk)):
 ∃X,X=(((w.setCell ⟨ib,0,none⟩ (.int .i64 0)).setCell ⟨ib,1,none⟩ (.int .i64 p)).alloc (.cells #[.int .i64 0,.int .i64 p] 253)).drew∧X.heap[hb]?=some (.cells V 228 (0,0))∧dIt.Own 253 X B (some ⟨ib,0,none⟩) c [(0,p)]∧X.heap[pb]?=some (.map es clk)∧X.cell? ⟨w.heap.size,0,none⟩=some (.int .i64 0)∧cR hb pb ib B w X:=by
 have hib:B≤ib∧ib<w.heap.size:=h2.row ib rfl
 have hne:hb≠ib:=fun e=>fS h2 h1 (by decide) (by simp[Value.ownBlock,e])
 have hpe:pb≠ib:=by
  intro e
  obtain⟨cur,fz,hg⟩:=Lib.ownsRow_kind h2 ib (by simp[Value.ownBlock])
  rw[←e,h3] at hg
  cases hg
 have hbl:=(gLt h1)
 have hpl:=(gLt h3)
 have hsz:((w.setCell ⟨ib,0,none⟩ (.int .i64 0)).setCell ⟨ib,1,none⟩ (.int .i64 p)).heap.size=w.heap.size:=by simp[World.setCell]
 refine⟨_,rfl,?_,?_,?_,?_,?_⟩
 ·exact(Below.heap_alloc _ _ _ (by rw[hsz];exact hbl)).trans ((aG _ ⟨ib,1,none⟩ _ hb hne).trans ((aG _ ⟨ib,0,none⟩ _ hb hne).trans h1))
 ·have a:=gY h2 0 y (0,y.2) rfl 0 (by decide) (.int .i64 0) rfl
  have b:=gY a 0 (0,y.2) (0,p) rfl 1 (by decide) (.int .i64 p) rfl
  have b':dIt.Own 253 ((w.setCell ⟨ib,0,none⟩ (.int .i64 0)).setCell ⟨ib,1,none⟩ (.int .i64 p)) B (some ⟨ib,0,none⟩) c [(0,p)]:=b
  exact b'.below (aI (aB bR _))
 ·exact(Below.heap_alloc _ _ _ (by rw[hsz];exact hpl)).trans ((aG _ ⟨ib,1,none⟩ _ pb hpe).trans ((aG _ ⟨ib,0,none⟩ _ pb hpe).trans h3))
 ·have:=aN ((w.setCell ⟨ib,0,none⟩ (.int .i64 0)).setCell ⟨ib,1,none⟩ (.int .i64 p)) (.cells #[.int .i64 0,.int .i64 p] 253)
  rw[hsz] at this
  exact aA this 0
 ·refine⟨?_,?_,?_⟩
  ·have k:=aH (aH (Below.refl B w) (p:=⟨ib,0,none⟩) hib.1 (.int .i64 0)) (p:=⟨ib,1,none⟩) hib.1 (.int .i64 p)
   exact aI (k.alloc (by rw[hsz];omega) _)
  ·intro i o hi _ _ hne
   have hil:=(gLt hi)
   exact(Below.heap_alloc _ _ _ (by rw[hsz];exact hil)).trans ((aG _ ⟨ib,1,none⟩ _ i hne).trans ((aG _ ⟨ib,0,none⟩ _ i hne).trans hi))
  ·show _≤(World.alloc _ _).heap.size
   simp[World.setCell]
theorem cR.mput {hb pb ib B:Nat} {w W:World} (h:cR hb pb ib B w W) (hB:B≤pb) (es:Array MapEntry) (clk:Nat):cR hb pb ib B w (qG W pb es clk):=
 ⟨lF h.below hB es clk,fun i o hi h1 h2 ho=>(eD W pb es clk i h2).trans (h.other i o hi h1 h2 ho),by show _≤(W.heap.setIfInBounds pb _).size;simp;exact h.size⟩
theorem aBr (hb pb B ib c:Nat) (hBb:B≤hb) (hBp:B≤pb) (y:Int×Int) (p:Int) (es:Array MapEntry) (clk:Nat) (w:World) (h1:w.heap[hb]?=some (.cells #[.slice (some ⟨ib,0,none⟩) 1 c,.map (some pb),.int .i64 4] 228 (0,0))) (h2:dIt.Own 253 w B (some ⟨ib,0,none⟩) c [y]) (h3:w.heap[pb]?=some (.map es clk)) (h4:es=#[]∨∃born,es=#[⟨.int .i64 0,.int .i64 0,born⟩]):
 Calls prog 273 #[.pointer (some ⟨hb,0,none⟩),.int .i64 0,.agg #[.int .i64 0,.int .i64 p]] w fun e w'=>e=.returned (.tuple #[])∧HpI hb pb B ib c p w'∧cR hb pb ib B w w':=by
 have c0:w.cell? ⟨hb,0,none⟩=some (.slice (some ⟨ib,0,none⟩) 1 c):=aA h1 0
 have c1:w.cell? ⟨hb,1,none⟩=some (.map (some pb)):=aA h1 1
 have hbl:=(gLt h1)
 have H1:=Hd h1
 have H2:=Hd h2
 have H3:=Hd h3
 have H4:=Hd h4
 obtain⟨ib',off,e1,hib,hc⟩:=h2.at_.get 0 y rfl
 cases e1
 have y0:=hc 0 (by decide)
 have y1:=hc 1 (by decide)
 simp only[Nat.zero_mul,Nat.add_zero,Nat.zero_add] at y0 y1
 have yf:∀j,w.frozen? ⟨ib,j,none⟩=false:=fun j=>h2.free j
 have y0':w.cell? ⟨ib,0,none⟩=some (.int .i64 y.1):=y0
 have y1':w.cell? ⟨ib,1,none⟩=some (.int .i64 y.2):=y1
 clear h1 h2 h3 h4 hc y0 y1
 go_enter func273,ntmps273
 go_wp2_with fail
 refine wp_region_still_tail 7 (by kernel_rfl) (by kernel_rfl) ?_
 simp only[List.take_succ_cons,List.take_zero,List.drop_succ_cons,List.drop_zero]
 change wpStill prog _ (w.alloc (.cells #[.int .i64 0,.int .i64 p] 253)).drew _ _ _
 repeat still_step
 refine wpStill_nil ?_
 change wpList prog _ _ _ _ (w.alloc (.cells #[.int .i64 0,.int .i64 p] 253)).drew
 go_wp2_with fail
 obtain⟨X,hX,a1,a2,a3,a4,a5⟩:=setX p hBb H1.out H2.out H3.out
 rw[←hX]
 clear hX
 have x1:X.drew.cell? ⟨hb,1,none⟩=some (.map (some pb)):=aA a1 1
 have x4:X.drew.cell? ⟨w.heap.size,0,none⟩=some (.int .i64 0):=a4
 have a3':X.drew.heap[pb]?=some (.map es clk):=a3
 obtain⟨clk',born,hup⟩:∃clk' born,(Instr.mapUpdate 97 (.map (some pb)) (.int .i64 0) (.int .i64 0)).run prog X.drew=.ok () (qG X.drew pb #[⟨.int .i64 0,.int .i64 0,born⟩] clk'):=by
  rcases H4.out with rfl|⟨born,rfl⟩
  ·exact⟨clk+1,clk,jH underlying97 underlying3 a3' 0 _ (by simp)⟩
  ·exact⟨clk,born,aGs underlying97 underlying3 a3' _⟩
 have A1:=Hd a1
 have A2:=Hd a2
 have A3:=Hd a3
 have A5:=Hd a5
 clear a1 a2 a3 a3' a4 a5
 refine wp_region_still_tail 7 (by kernel_rfl) (by kernel_rfl) ?_
 simp only[List.take_succ_cons,List.take_zero,List.drop_succ_cons,List.drop_zero]
 change wpStill prog _ X.drew _ _ _
 repeat still_step
 refine wpStill_nil ?_
 change wpList prog _ _ _ _ X.drew
 go_wp2_with fail
 go_end0
 refine⟨rfl,⟨(eD _ pb _ _ hb ?_).trans A1.out,rR (W:=X.drew) A2.out A3.out _ _,⟨born,clk',qP (W:=X.drew) A3.out⟩⟩,(cR.mput (W:=X.drew) ⟨aI A5.out.below,A5.out.other,A5.out.size⟩ hBp _ _)⟩
 intro e
 have:=A1.out
 rw[e,A3.out] at this
 cases this
theorem cR.refl (hb pb ib B:Nat) (w:World):cR hb pb ib B w w:=⟨bR,fun _ _ h _ _ _=>h,nR⟩
theorem cR.trans {hb pb ib B:Nat} {w1 w2 w3:World} (h:cR hb pb ib B w1 w2) (k:cR hb pb ib B w2 w3):cR hb pb ib B w1 w3:=⟨h.below.trans k.below,fun i o hi h1 h2 h3=>k.other i o (h.other i o hi h1 h2 h3) h1 h2 h3,Nat.le_trans h.size k.size⟩
theorem cR.of {hb pb ib B:Nat} {w w':World} (hB:B≤w.heap.size) (h:Below w.heap.size w w'):cR hb pb ib B w w':=⟨aP h hB,fun i _ hi _ _ _=>(h.block i (gLt hi)).trans hi,h.size⟩
section
variable {hb pb B ib c:Nat} {p:Int} {w w':World}
theorem HpI.below (h:HpI hb pb B ib c p w) (k:Below w.heap.size w w'):HpI hb pb B ib c p w':=by
 obtain⟨h1,h2,born,clk,h3⟩:=h
 exact⟨(k.block hb (gLt h1)).trans h1,h2.below k,born,clk,(k.block pb (gLt h3)).trans h3⟩
theorem HpI.lt (h:HpI hb pb B ib c p w):hb<w.heap.size∧pb<w.heap.size∧ib<w.heap.size∧B≤ib∧hb≠ib∧pb≠ib:=by
 obtain⟨h1,h2,born,clk,h3⟩:=h
 have hib:B≤ib∧ib<w.heap.size:=h2.row ib rfl
 refine⟨(gLt h1),(gLt h3),hib.2,hib.1,fun e=>fS h2 h1 (by decide) (by simp[Value.ownBlock,e]),?_⟩
 intro e
 obtain⟨cur,fz,hg⟩:=Lib.ownsRow_kind h2 ib (by simp[Value.ownBlock])
 rw[←e,h3] at hg
 cases hg
theorem HpI.cells (h:HpI hb pb B ib c p w):w.cell? ⟨hb,0,none⟩=some (.slice (some ⟨ib,0,none⟩) 1 c)∧w.cell? ⟨hb,1,none⟩=some (.map (some pb))∧w.cell? ⟨hb,2,none⟩=some (.int .i64 4)∧w.cell? ⟨ib,0,none⟩=some (.int .i64 0)∧w.cell? ⟨ib,1,none⟩=some (.int .i64 p)∧(∀j,w.frozen? ⟨ib,j,none⟩=false):=by
 obtain⟨ib',off,e1,hib,hc⟩:=h.row.at_.get 0 (0,p) rfl
 cases e1
 have y0:=hc 0 (by decide)
 have y1:=hc 1 (by decide)
 simp only[Nat.zero_mul,Nat.add_zero,Nat.zero_add] at y0 y1
 exact⟨aA h.box 0,aA h.box 1,aA h.box 2,y0,y1,fun j=>h.row.free j⟩
theorem HpI.look (h:HpI hb pb B ib c p w) (b:Bool):(Instr.lookup 97 (.map (some pb)) (.int .i64 0) b).run prog w=.ok (if b then .tuple #[.int .i64 0,.bool true] else .int .i64 0) w:=by
 obtain⟨_,_,born,clk,h3⟩:=h
 exact wS 0 _ born clk pb w h3 b
end
theorem aFy (hb pb B ib c:Nat) (hBb:B≤hb) (hBp:B≤pb) (p:Int) (w:World) (h:HpI hb pb B ib c p w):
 Calls prog 280 #[.pointer (some ⟨hb,0,none⟩),.int .i64 0,.int .i64 0] w fun e w'=>e=.returned (.tuple #[])∧HpI hb pb B ib c p w'∧cR hb pb ib B w w':=by
 have HS:Hid (∀W,HpI hb pb B ib c p W→Calls prog 273 #[.pointer (some ⟨hb,0,none⟩),.int .i64 0,.agg #[.int .i64 0,.int .i64 p]] W fun e w'=>e=.returned (.tuple #[])∧HpI hb pb B ib c p w'∧cR hb pb ib B W w'):=Hd (fun W hW=>by
  obtain⟨a1,a2,born,clk,a3⟩:=hW
  exact aBr hb pb B ib c hBb hBp (0,p) p _ clk W a1 a2 a3 (.inr ⟨born,rfl⟩))
 obtain⟨l1,l2,l3,l4,l5,l6⟩:=h.lt
 obtain⟨c0,c1,c2,y0,y1,yf⟩:=h.cells
 have HX:Hid (∃X,X=((w.alloc (.cells #[.int .i64 0,.int .i64 p] 253)).alloc (.cells #[.int .i64 0,.int .i64 p] 253)).drew∧Below w.heap.size w X∧HpI hb pb B ib c p X∧X.heap[w.heap.size]?=some (.cells #[.int .i64 0,.int .i64 p] 253 (0,0))∧X.heap[w.heap.size+1]?=some (.cells #[.int .i64 0,.int .i64 p] 253 (0,0))):=Hd (by
  have hb2:Below w.heap.size w ((w.alloc (.cells #[.int .i64 0,.int .i64 p] 253)).alloc (.cells #[.int .i64 0,.int .i64 p] 253)).drew:=blw
  refine⟨_,rfl,hb2,h.below hb2,(Below.heap_alloc _ _ _ (by simp)).trans (aN w _),?_⟩
  have:=aN (w.alloc (.cells #[.int .i64 0,.int .i64 p] 253)) (.cells #[.int .i64 0,.int .i64 p] 253)
  rw[sz1] at this
  exact this)
 have HBW:Hid (B≤w.heap.size):=Hd (by omega)
 clear h
 go_enter func280,ntmps280
 go_wp2_with fail
 go_region
 all_goals obtain⟨X,hX,x1,x2,x3,x4⟩:=HX.out
 all_goals rw[←hX]
 all_goals have xl0:=(gLt x3)
 all_goals have xl1:=(gLt x4)
 all_goals have xa0:X.cell? ⟨w.heap.size,0,none⟩=some (.int .i64 0):=aA x3 0
 all_goals have xa1:X.cell? ⟨w.heap.size,1,none⟩=some (.int .i64 p):=aA x3 1
 all_goals have xb0:X.cell? ⟨w.heap.size+1,0,none⟩=some (.int .i64 0):=aA x4 0
 all_goals have xb1:X.cell? ⟨w.heap.size+1,1,none⟩=some (.int .i64 p):=aA x4 1
 all_goals have X1:=Hd x1
 all_goals have X2:=Hd x2
 all_goals have X3:=Hd x3
 all_goals have X4:=Hd x4
 all_goals clear hX x1 x2 x3 x4 HX
 all_goals go_wp2_with (first
  |(go_at_call 273;go_must (first
   |(refine(HS.out _ HW1.out).mono ?_;rintro e W2 ⟨rfl,hW2,hk2⟩;have HW2:=Hd hW2;have HK2:=Hd hk2;clear hW2 hk2)
   |(refine(HS.out _ X2.out).mono ?_;rintro e W1 ⟨rfl,hW1,hk1⟩;have HW1:=Hd hW1;have HK1:=Hd hk1;have z3:=hk1.other _ _ X3.out (by omega) (by omega) (by omega);have z4:=hk1.other _ _ X4.out (by omega) (by omega) (by omega);have za0:W1.cell? ⟨w.heap.size,0,none⟩=some (.int .i64 0):=aA z3 0;have za1:W1.cell? ⟨w.heap.size,1,none⟩=some (.int .i64 p):=aA z3 1;have zb0:W1.cell? ⟨w.heap.size+1,0,none⟩=some (.int .i64 0):=aA z4 0;have zb1:W1.cell? ⟨w.heap.size+1,1,none⟩=some (.int .i64 p):=aA z4 1;clear hW1 hk1 z3 z4))))
 all_goals go_end0
 all_goals exact⟨rfl,HW2.out,(cR.of HBW.out X1.out).trans (HK1.out.trans HK2.out)⟩
theorem aGx (hb pb B ib c:Nat) (p:Int) (w:World) (h:HpI hb pb B ib c p w):Calls prog 210 #[.pointer (some ⟨hb,0,none⟩),.int .i64 0] w fun e w'=>e=.returned (.tuple #[.int .i64 p,.bool true])∧w'=w:=by
 have HP:Hid (Calls prog 270 #[.pointer (some ⟨hb,0,none⟩),.int .i64 0] w fun e w'=>e=.returned (.tuple #[.int .i64 0,.bool true])∧w'=w):=Hd (by
  obtain⟨a1,a2,born,clk,a3⟩:=h
  exact pF hb pb B p w ⟨_,_,_,clk,a1,a2,a3,.inr ⟨p,born,rfl,rfl⟩⟩)
 obtain⟨c0,c1,c2,y0,y1,yf⟩:=h.cells
 clear h
 go_enter func210,ntmps210
 go_wp2_with (go_at_call 270;go_must (refine HP.out.mono ?_;rintro e w' ⟨rfl,rfl⟩))
 go_ret2
 exact⟨rfl,rfl⟩
theorem aDk (hb pb B:Nat) (w:World) (h:kP hb pb B [] w):Calls prog 210 #[.pointer (some ⟨hb,0,none⟩),.int .i64 0] w fun e w'=>e=.returned (.tuple #[.int .i64 0,.bool false])∧w'=w:=by
 have HP:=Hd (rM hb pb B w h)
 clear h
 go_enter func210,ntmps210
 go_wp2_with (go_at_call 270;go_must (refine HP.out.mono ?_;rintro e w' ⟨rfl,rfl⟩))
 go_ret2
 exact⟨rfl,rfl⟩
theorem aA7 (hb pb B ib c:Nat) (p q:Int) (w:World) (h:HpI hb pb B ib c p w):Calls prog 211 #[.pointer (some ⟨hb,0,none⟩),.int .i64 0,.int .i64 q] w fun e w'=>e=.returned (.bool true)∧HpI hb pb B ib c q w'∧cR hb pb ib B w w':=by
 have HP:Hid (Calls prog 270 #[.pointer (some ⟨hb,0,none⟩),.int .i64 0] w fun e w'=>e=.returned (.tuple #[.int .i64 0,.bool true])∧w'=w):=Hd (by
  obtain⟨a1,a2,born,clk,a3⟩:=h
  exact pF hb pb B p w ⟨_,_,_,clk,a1,a2,a3,.inr ⟨p,born,rfl,rfl⟩⟩)
 have HU:=Hd (fun W=>aBg hb W)
 obtain⟨l1,l2,l3,l4,l5,l6⟩:=h.lt
 obtain⟨c0,c1,c2,y0,y1,yf⟩:=h.cells
 have HS:Hid (HpI hb pb B ib c q (w.setCell ⟨ib,1,none⟩ (.int .i64 q))∧cR hb pb ib B w (w.setCell ⟨ib,1,none⟩ (.int .i64 q))):=Hd (by
  obtain⟨a1,a2,born,clk,a3⟩:=h
  have b:=gY a2 0 (0,p) (0,q) rfl 1 (by decide) (.int .i64 q) rfl
  have b':dIt.Own 253 (w.setCell ⟨ib,1,none⟩ (.int .i64 q)) B (some ⟨ib,0,none⟩) c [(0,q)]:=b
  exact⟨⟨(aG w ⟨ib,1,none⟩ _ hb l5).trans a1,b',born,clk,(aG w ⟨ib,1,none⟩ _ pb l6).trans a3⟩,aH (Below.refl B w) (p:=⟨ib,1,none⟩) l4 _,fun i o hi _ _ hne=>(aG w ⟨ib,1,none⟩ _ i hne).trans hi,by simp[World.setCell]⟩)
 have HBW:Hid (B≤w.heap.size):=Hd (by omega)
 clear h
 go_enter func211,ntmps211
 go_wp2_with (first
  |(go_at_call 270;go_must (refine HP.out.mono ?_;rintro e w' ⟨rfl,rfl⟩))
  |(go_at_call 271;go_must (refine(HU.out _).mono ?_;rintro e W1 ⟨rfl,hb1⟩;have hI1:=HS.out.1.below hb1;obtain⟨d0,d1,d2,z0,z1,zf⟩:=hI1.cells;have hlk:=hI1.look false;have HI1:=Hd hI1;have HK1:=Hd (HS.out.2.trans (cR.of (Nat.le_trans HBW.out HS.out.2.size) hb1));clear hb1 hI1))
  |(go_at_call 272;go_must (refine(aI9 hb _ _ 1 nR _ (HI1.out.cells).1).mono ?_;rintro e W2 ⟨rfl,hb2⟩;have HI2:=Hd (HI1.out.below hb2);have HK2:=Hd (HK1.out.trans (cR.of (Nat.le_trans HBW.out HK1.out.size) hb2));clear hb2)))
 go_ret
 exact⟨rfl,HI2.out,HK2.out⟩
end Go.Proofs.YtlibhkkckgkkkaaGreatDoor.Tf
namespace Go.Proofs.YtlibhkkckgkkkaaGreatDoor.Tf
open Go.RowKit Go.Proofs.YtlibhkkckgkkkaaGreatDoor.Mem Go.Proofs.YtlibhkkckgkkkaaGreatDoor.Boo
structure iF (hb pb B:Nat) (w w':World):Prop where
 below:Below B w w'
 other:∀i o,w.heap[i]?=some o→i≠hb→i≠pb→(∀c f,o≠.cells c 253 f)→w'.heap[i]?=some o
 size:w.heap.size≤w'.heap.size
theorem iF.refl (hb pb B:Nat) (w:World):iF hb pb B w w:=⟨bR,fun _ _ h _ _ _=>h,nR⟩
theorem iF.trans {hb pb B:Nat} {w1 w2 w3:World} (h:iF hb pb B w1 w2) (k:iF hb pb B w2 w3):iF hb pb B w1 w3:=⟨h.below.trans k.below,fun i o hi h1 h2 ho=>k.other i o (h.other i o hi h1 h2 ho) h1 h2 ho,Nat.le_trans h.size k.size⟩
theorem iF.of {hb pb B:Nat} {w w':World} (hB:B≤w.heap.size) (h:Below w.heap.size w w'):iF hb pb B w w':=⟨aP h hB,fun i _ hi _ _ _=>(h.block i (gLt hi)).trans hi,h.size⟩
theorem wC {hb pb B ib c:Nat} {p:Int} {w:World} (h:HpI hb pb B ib c p w):∃cur fz,w.heap[ib]?=some (.cells cur 253 fz):=by
 obtain⟨cur,fz,hg⟩:=Lib.ownsRow_kind h.row ib (by simp[Value.ownBlock])
 exact⟨cur,fz,hg⟩
theorem cR.toH {hb pb ib B:Nat} {w w':World} (h:cR hb pb ib B w w') (hI:∃cur fz,w.heap[ib]?=some (.cells cur 253 fz)):iF hb pb B w w':=
 ⟨h.below,fun i o hi h1 h2 ho=>h.other i o hi h1 h2 (by
   rintro rfl
   obtain⟨cur,fz,hg⟩:=hI
   rw[hg] at hi
   injection hi with hi
   exact ho _ _ hi.symm),h.size⟩
theorem kP.lt {hb pb B:Nat} {xs:List (Int×Int)} {w:World} (h:kP hb pb B xs w):hb<w.heap.size∧pb<w.heap.size:=by
 obtain⟨A,c,es,clk,h1,h2,h3,h4⟩:=h.ex
 exact⟨(gLt h1),(gLt h3)⟩
theorem aN8 {W:World} {g:Nat} {x:Int×Int} (h0:W.cell? ⟨g,0,none⟩=some (.int .i64 x.1)) (h1:W.cell? ⟨g,1,none⟩=some (.int .i64 x.2)):dIt.At W (some ⟨g,0,none⟩) 1 [x]:=
 ⟨nR,by omega,(fun e=>by cases e),fun _=>⟨g,0,rfl,bL W _ h0,fun i hi=>by
   have hi3:i<2:=hi
   match i,hi3 with
   |0,_=>exact h0
   |1,_=>exact h1⟩⟩
theorem aQ9 {hb pb B:Nat} {A A3:Option Addr} {c c3:Nat} {q:Int×Int} {w W w3:World} {es:Array MapEntry} {clk:Nat} (hB:B≤hb) (hBw:B≤w.heap.size) (hW:Below w.heap.size w W) (h1:w.heap[hb]?=some (.cells #[.slice A 0 c,.map (some pb),.int .i64 4] 228 (0,0))) (h2:dIt.Own 253 w B A c []) (h3:w.heap[pb]?=some (.map es clk)) (o3:dIt.Own 253 w3 B A3 c3 [q]) (hg:W.grownBy w3 (Value.slice A 0 c).ownBlock):
 ∃ib X,A3=some ⟨ib,0,none⟩∧w3.heap[hb]?=some (.cells #[.slice A 0 c,.map (some pb),.int .i64 4] 228 (0,0))∧X=w3.setCell ⟨hb,0,none⟩ (.slice (some ⟨ib,0,none⟩) 1 c3)∧X.heap[hb]?=some (.cells #[.slice (some ⟨ib,0,none⟩) 1 c3,.map (some pb),.int .i64 4] 228 (0,0))∧dIt.Own 253 X B (some ⟨ib,0,none⟩) c3 [q]∧X.heap[pb]?=some (.map es clk)∧iF hb pb B w X:=by
 have hbl:=(gLt h1)
 have hpl:=(gLt h3)
 have hrow:∀r,(Value.slice A 0 c).ownBlock=some r→∃cur fz,w.heap[r]?=some (.cells cur 253 fz):=fun r hr=>Lib.ownsRow_kind h2 r hr
 have hnb:(Value.slice A 0 c).ownBlock≠some hb:=fun e=>by
  obtain⟨cur,fz,hk⟩:=hrow hb e
  rw[h1] at hk
  injection hk with hk
  injection hk with _ e2 _
  exact absurd e2 (by decide)
 have hnp:(Value.slice A 0 c).ownBlock≠some pb:=fun e=>by
  obtain⟨cur,fz,hk⟩:=hrow pb e
  rw[h3] at hk
  cases hk
 have b3:w3.heap[hb]?=some (.cells #[.slice A 0 c,.map (some pb),.int .i64 4] 228 (0,0)):=gO hW h1 hg hnb
 have p3:w3.heap[pb]?=some (.map es clk):=(hg.block pb (Nat.lt_of_lt_of_le hpl hW.size) (fun e=>hnp e.symm)).trans ((hW.block pb hpl).trans h3)
 have hpb:pb≠hb:=by
  intro e
  rw[e,h1] at h3
  cases h3
 rcases o3.form with⟨_,_,e⟩|⟨g,rfl,hg1,hg2,_⟩
 ·cases e
 ·refine⟨g,_,rfl,b3,rfl,aE w3 hb 0 _ 228 _ b3,?_,(aG w3 ⟨hb,0,none⟩ _ pb hpb).trans p3,⟨?_,?_,?_⟩⟩
  ·exact o3.kept (row:=some hb) ⟨rfl,rfl,rfl,by simp[World.setCell],fun k _ hk=>Below.heap_setCell _ _ _ _ (fun e=>hk (by simp[e]))⟩ (.inr (fS o3 b3 (by decide)))
  ·exact aH (((aP hW hBw)).grown hg (Nat.le_trans hBw hW.size) (fun r hr=>(h2.row r hr).1)) (p:=⟨hb,0,none⟩) hB _
  ·intro i o hi e1 _ ho
   have hil:=(gLt hi)
   refine(aG w3 ⟨hb,0,none⟩ _ i e1).trans ((hg.block i (Nat.lt_of_lt_of_le hil hW.size) (fun e=>?_)).trans ((hW.block i hil).trans hi))
   obtain⟨cur,fz,hk⟩:=hrow i e.symm
   rw[hi] at hk
   injection hk with hk
   exact ho _ _ hk
  ·have h5:=hg.size
   have h6:=hW.size
   simp[World.setCell]
   omega
theorem aGu (hb pb B:Nat) (hBb:B≤hb) (hBp:B≤pb) (p:Int) (w:World) (h:kP hb pb B [] w):Calls Tryz.prog 212 #[.pointer (some ⟨hb,0,none⟩),.int .i64 0,.int .i64 p] w fun e w'=>e=.returned (.int .i64 0)∧(∃ib c,HpI hb pb B ib c p w')∧iF hb pb B w w':=by
 obtain⟨i0,hi,iz,isz,iby⟩:=info_parts aMt
 have HP:=Hd (rM hb pb B w h)
 have HU:=Hd (fun W=>aBg hb W)
 obtain⟨l1,l2⟩:=h.lt
 obtain⟨A,c,es,clk,h1,h2,h3,h4⟩:=h.ex
 have h1:w.heap[hb]?=some (.cells #[.slice A 0 c,.map (some pb),.int .i64 4] 228 (0,0)):=h1
 have c0:w.cell? ⟨hb,0,none⟩=some (.slice A 0 c):=aA h1 0
 have c1:w.cell? ⟨hb,1,none⟩=some (.map (some pb)):=aA h1 1
 have c2:w.cell? ⟨hb,2,none⟩=some (.int .i64 4):=aA h1 2
 have H1:=Hd h1
 have H2:=Hd h2
 have H3:=Hd h3
 have HBw:Hid (B≤w.heap.size):=Hd (by omega)
 have H4:Hid (es=#[]∨∃born,es=#[⟨.int .i64 0,.int .i64 0,born⟩]):=Hd (by
  rcases h4 with⟨_,rfl⟩|⟨q,b,_,rfl⟩
  ·exact .inl rfl
  ·exact .inr ⟨b,rfl⟩)
 clear h h1 h2 h3 h4
 go_enter Tryz.func212,Tryz.ntmps212
 have HP2:Hid (Calls Tryz.prog 270 #[.pointer (some ⟨hb,0,none⟩),.int .i64 0] w fun e w'=>e=.returned (.tuple #[.int .i64 0,.bool false])∧w=w'):=Hd (HP.out.mono (fun _ _ h=>⟨h.1,h.2.symm⟩))
 go_wp2_with (go_at_call 270;go_must (refine HP2.out.mono ?_;rintro e w' ⟨rfl,rfl⟩))
 go_quiet (fail)
 go_wp2_with (first
  |(at_builtin;refine aV dIt _ rfl _ _ 226 rfl B 253 i0 _ 16 Tryz.underlying226 hi iz isz iby rfl A c 0 [] rfl rfl ?own _ 1 1 [(0,0)] rfl rfl ?at_ ?m1 ?m2 ?m3 ?_))
 case own=>exact H2.out.below blw
 case at_=>exact aN8 (aA (aN (w.drewN _) _) 0) (aA (aN (w.drewN _) _) 1)
 case m1=>simp
 case m2=>simp
 case m3=>have:=HBw.out;simp;omega
 intro A3 c3 w3 hown hg hat
 obtain⟨ib,X,rfl,b3,hX,x1,x2,x3,xk⟩:=aQ9 (w:=w) hBb HBw.out blw H1.out H2.out H3.out hown hg
 have d0:w3.cell? ⟨hb,0,none⟩=some (.slice A 0 c):=aA b3 0
 have g0:w3.frozen? ⟨hb,0,none⟩=false:=fH b3 0
 have hl3:=(gLt b3)
 subst hX
 have X1:=Hd x1
 have X2:=Hd x2
 have X3:=Hd x3
 have XK:=Hd xk
 clear x1 x2 x3 xk hown hg hat b3
 go_wp2_with (first
  |(go_at_call 273;go_must (refine(aBr hb pb B ib c3 hBb hBp (0,0) p es clk _ X1.out X2.out X3.out H4.out).mono ?_;rintro e W4 ⟨rfl,hI,hk⟩;obtain⟨e0,e1,e2,_⟩:=hI.cells;have HI4:=Hd hI;have HK4:=Hd (XK.out.trans (hk.toH (Lib.ownsRow_kind X2.out ib (by simp[Value.ownBlock]))));clear hI hk))
  |(go_at_call 271;go_must (refine(HU.out _).mono ?_;rintro e W5 ⟨rfl,hb5⟩;have HI5:=Hd (HI4.out.below hb5);have HK5:=Hd (HK4.out.trans (iF.of (Nat.le_trans HBw.out HK4.out.size) hb5));clear hb5)))
 go_ret
 exact⟨rfl,⟨ib,c3,HI5.out⟩,HK5.out⟩
end Go.Proofs.YtlibhkkckgkkkaaGreatDoor.Tf
namespace Go.Proofs.YtlibhkkckgkkkaaGreatDoor.Tf
open Go.RowKit Go.Proofs.YtlibhkkckgkkkaaGreatDoor.Mem Go.Proofs.YtlibhkkckgkkkaaGreatDoor.Boo Go.Proofs.Tryz
theorem cR.cell {hb pb ib B:Nat} {w w':World} (h:cR hb pb ib B w w') {q:Addr} (e1:q.block≠hb) (e2:q.block≠pb) (e3:q.block≠ib) {v:Value} (hc:w.cell? q=some v):w'.cell? q=some v:=by
 have hi:=Array.getElem?_eq_getElem (bL w q hc)
 have:=h.other _ _ hi e1 e2 e3
 unfold World.cell? at hc ⊢
 rw[this,←hi]
 exact hc
theorem cR.frozen {hb pb ib B:Nat} {w w':World} (h:cR hb pb ib B w w') {q:Addr} (e1:q.block≠hb) (e2:q.block≠pb) (e3:q.block≠ib) (hl:q.block<w.heap.size):w'.frozen? q=w.frozen? q:=by
 have hi:=Array.getElem?_eq_getElem hl
 have:=h.other _ _ hi e1 e2 e3
 unfold World.frozen?
 rw[this,←hi]
structure HpE (hb pb B ib c:Nat) (w:World):Prop where
 box:w.heap[hb]?=some (.cells #[.slice (some ⟨ib,0,none⟩) 0 c,.map (some pb),.int .i64 4] 228 (0,0))
 row:dIt.Own 253 w B (some ⟨ib,0,none⟩) c []
 map:∃clk,w.heap[pb]?=some (.map #[] clk)
theorem HpE.at_ {hb pb B ib c:Nat} {w:World} (h:HpE hb pb B ib c w):kP hb pb B [] w:=by
 obtain⟨clk,hm⟩:=h.map
 exact⟨_,_,#[],clk,h.box,h.row,hm,.inl ⟨rfl,rfl⟩⟩
theorem HpE.set {hb pb B ib c:Nat} {w:World} (h:HpE hb pb B ib c w) {q:Addr} (e1:q.block≠hb) (e2:q.block≠pb) (e3:q.block≠ib) (v:Value):HpE hb pb B ib c (w.setCell q v):=by
 obtain⟨clk,hm⟩:=h.map
 exact⟨(aG w q v hb e1.symm).trans h.box,h.row.kept (row:=some q.block) ⟨rfl,rfl,rfl,by simp[World.setCell],fun k _ hk=>Below.heap_setCell _ _ _ _ (fun e=>hk (by simp[e]))⟩ (.inr (by simp[Value.ownBlock];exact fun e=>e3 e.symm)),clk,(aG w q v pb e2.symm).trans hm⟩
theorem cR.set {hb pb ib B:Nat} {w0 w w':World} (h0:Below w0.heap.size w0 w) (h:cR hb pb ib B w w') {q:Addr} (hq:w0.heap.size≤q.block) (hB:B≤w0.heap.size) (v:Value):cR hb pb ib B w0 (w'.setCell q v):=by
 refine⟨(aP h0 hB).trans (aH h.below (by omega) v),fun i o hi e1 e2 e3=>?_,?_⟩
 ·have hil:=(gLt hi)
  exact(aG w' q v i (by omega)).trans (h.other i o ((h0.block i hil).trans hi) e1 e2 e3)
 ·have:=h0.size
  have:=h.size
  simp[World.setCell]
  omega
theorem aK3 (hb pb B ib c:Nat) (p:Int) (w:World) (h:HpI hb pb B ib c p w):Calls prog 221 #[.pointer (some ⟨hb,0,none⟩)] w (Ret (.tuple #[.agg #[.int .i64 0,.int .i64 p],.bool true]) w):=by
 obtain⟨c0,c1,c2,y0,y1,yf⟩:=h.cells
 obtain⟨l1,l2,l3,l4,l5,l6⟩:=h.lt
 clear h yf
 have HL:Hid (Calls prog 279 #[.pointer (some ⟨hb,0,none⟩)] (w.alloc (.cells #[.int .i64 0,.int .i64 0] 253)) fun e w'=>e=.returned (.int .i64 1)∧(w.alloc (.cells #[.int .i64 0,.int .i64 0] 253))=w'):=Hd ((aHx hb (some ⟨ib,0,none⟩) c 1 _ (by go_simp)).mono (fun _ _ h=>⟨h.1,h.2.symm⟩))
 go_enter func221,ntmps221
 go_wp2_with (go_at_call 279;go_must (refine HL.out.mono ?_;rintro e w' ⟨rfl,rfl⟩))
 exact bodyPost_ret (v:=.tuple #[.agg #[.int .i64 0,.int .i64 p],.bool true]) (by simp[results,results221,go_sem, *]) rfl ⟨rfl,blw⟩
theorem zB (hb pb B ib c:Nat) (hBb:B≤hb) (hBp:B≤pb) (p:Int) (w:World) (h:HpI hb pb B ib c p w):Calls prog 222 #[.pointer (some ⟨hb,0,none⟩),.int .i64 0] w fun e w'=>e=.returned (.bool true)∧HpE hb pb B ib c w'∧cR hb pb ib B w w':=by
 have HP:Hid (Calls prog 270 #[.pointer (some ⟨hb,0,none⟩),.int .i64 0] w fun e w'=>e=.returned (.tuple #[.int .i64 0,.bool true])∧w=w'):=Hd (by
  obtain⟨a1,a2,born,clk,a3⟩:=h
  exact(pF hb pb B p w ⟨_,_,_,clk,a1,a2,a3,.inr ⟨p,born,rfl,rfl⟩⟩).mono (fun _ _ h=>⟨h.1,h.2.symm⟩))
 have HS:=Hd (aFy hb pb B ib c hBb hBp p w h)
 have hpn:pb≠hb:=by
  intro e
  have:=h.box
  obtain⟨b',k',hm⟩:=h.map
  rw[←e,hm] at this
  cases this
 obtain⟨c0,c1,c2,y0,y1,yf⟩:=h.cells
 obtain⟨l1,l2,l3,l4,l5,l6⟩:=h.lt
 clear h
 have zc:(0:Int)≤(c:Int):=by omega
 go_enter func222,ntmps222
 go_wp2_with (first
  |(go_at_call 270;go_must (refine HP.out.mono ?_;rintro e w' ⟨rfl,rfl⟩))
  |(go_at_call 280;go_must (refine HS.out.mono ?_;rintro e W1 ⟨rfl,hI,hk⟩;obtain⟨d0,d1,d2,z0,z1,zf⟩:=hI.cells;obtain⟨k1,k2,k3,_⟩:=hI.lt;have df:W1.frozen? ⟨hb,0,none⟩=false:=fH hI.box 0;obtain⟨born,clk,hm⟩:=hI.map;have hm2:(W1.setCell ⟨hb,0,none⟩ (.slice (some ⟨ib,0,none⟩) 0 c)).heap[pb]?=some (.map #[⟨.int .i64 0,.int .i64 0,born⟩] clk):=(aG W1 ⟨hb,0,none⟩ _ pb hpn).trans hm;have hdel:=fun ty=>aNp (ty:=ty) underlying97 underlying3 hm2;have HI1:=Hd hI;have HK1:=Hd hk;have HM2:=Hd hm2;clear hI hk hm hm2)))
 go_ret
 have h5:(W1.setCell ⟨hb,0,none⟩ (.slice (some ⟨ib,0,none⟩) 0 c)).heap[hb]?=some (.cells #[.slice (some ⟨ib,0,none⟩) 0 c,.map (some pb),.int .i64 4] 228 (0,0)):=aE W1 hb 0 _ 228 _ HI1.out.box
 have o5:dIt.Own 253 (W1.setCell ⟨hb,0,none⟩ (.slice (some ⟨ib,0,none⟩) 0 c)) B (some ⟨ib,0,none⟩) c []:=(rP HI1.out.row 0 (by simp)).kept (row:=some hb) ⟨rfl,rfl,rfl,by simp[World.setCell],fun k _ hk=>Below.heap_setCell _ _ _ _ (fun e=>hk (by simp[e]))⟩ (.inr (fS (rP HI1.out.row 0 (by simp)) HI1.out.box (by decide)))
 have hne:hb≠pb:=fun e=>hpn e.symm
 refine⟨rfl,⟨(eD _ pb _ _ hb hne).trans h5,rR o5 HM2.out _ _,clk,qP HM2.out⟩,HK1.out.trans ⟨?_,?_,?_⟩⟩
 ·exact lF (aH (Below.refl B W1) (p:=⟨hb,0,none⟩) hBb _) hBp _ _
 ·intro i o hi e1 e2 _
  exact(eD _ pb _ _ i e2).trans ((aG W1 ⟨hb,0,none⟩ _ i e1).trans hi)
 ·show _≤((World.setCell _ _ _).heap.setIfInBounds pb _).size
  simp[World.setCell]
theorem aLt (hb pb B ib c:Nat) (hBb:B≤hb) (hBp:B≤pb) (p:Int) (w:World) (h:HpI hb pb B ib c p w):Calls prog 138 #[.pointer (some ⟨hb,0,none⟩)] w fun e w'=>e=.returned (.tuple #[.agg #[.int .i64 0,.int .i64 p],.bool true])∧kP hb pb B [] w'∧iF hb pb B w w':=by
 have HT:Hid (∀W,Below w.heap.size w W→Calls prog 221 #[.pointer (some ⟨hb,0,none⟩)] W (Ret (.tuple #[.agg #[.int .i64 0,.int .i64 p],.bool true]) W)):=Hd (fun W hW=>aK3 hb pb B ib c p W (h.below hW))
 have HR:Hid (∀W,Below w.heap.size w W→Calls prog 222 #[.pointer (some ⟨hb,0,none⟩),.int .i64 0] W fun e w'=>e=.returned (.bool true)∧HpE hb pb B ib c w'∧cR hb pb ib B W w'):=Hd (fun W hW=>zB hb pb B ib c hBb hBp p W (h.below hW))
 have HRK:=Hd (wC h)
 obtain⟨l1,l2,l3,l4,_⟩:=h.lt
 have HBW:Hid (B≤w.heap.size):=Hd (by omega)
 clear h
 go_enter func138,ntmps138
 go_wp2_with (first
  |(go_at_call 221;go_must (refine rC w (HT.out _ blw) ?_;intro W1 hb HB1;(obtain⟨⟨kc1_0_0,kc1_0_1⟩,kl1_0,kf1_0⟩:=kb2 hb (w.heap.size) (.int .i64 0) (.int .i64 0));clear hb)))
 go_region_with (first
  |(go_at_call 222;go_must (refine(HR.out _ blw).mono ?_;rintro e W2 ⟨rfl,hE,hk⟩;have q0:W2.cell? ⟨w.heap.size,0,none⟩=some (.int .i64 0):=hk.cell (by dsimp only;omega) (by dsimp only;omega) (by dsimp only;omega) (by go_simp);have q1:W2.cell? ⟨w.heap.size,1,none⟩=some (.int .i64 0):=hk.cell (by dsimp only;omega) (by dsimp only;omega) (by dsimp only;omega) (by go_simp);have qf:∀j,W2.frozen? ⟨w.heap.size,j,none⟩=false:=fun j=>(hk.frozen (by dsimp only;omega) (by dsimp only;omega) (by dsimp only;omega) (by dsimp only;simp;omega)).trans (by go_simp);have r0:W2.cell? ⟨W1.heap.size,0,none⟩=some (.int .i64 0):=hk.cell (by dsimp only;omega) (by dsimp only;omega) (by dsimp only;omega) (by go_simp);have r1:W2.cell? ⟨W1.heap.size,1,none⟩=some (.int .i64 p):=hk.cell (by dsimp only;omega) (by dsimp only;omega) (by dsimp only;omega) (by go_simp);have HE:=Hd hE;have HK:=Hd (⟨_,blw,hk⟩:∃W,Below w.heap.size w W∧cR hb pb ib B W W2);clear hE hk)))
 all_goals go_wp2_with fail
 all_goals obtain⟨W,hW,hk⟩:=HK.out
 all_goals refine bodyPost_ret (v:=.tuple #[.agg #[.int .i64 0,.int .i64 p],.bool true]) (by simp[results,results138,go_sem, *]) rfl ⟨rfl,((HE.out.set (q:=⟨w.heap.size,0,none⟩) (by dsimp only;omega) (by dsimp only;omega) (by dsimp only;omega) _).set (q:=⟨w.heap.size,1,none⟩) (by dsimp only;omega) (by dsimp only;omega) (by dsimp only;omega) _).at_,(cR.set (w0:=w) (w:=w) bR (cR.set hW hk (q:=⟨w.heap.size,0,none⟩) nR HBW.out _) (q:=⟨w.heap.size,1,none⟩) nR HBW.out _).toH HRK.out⟩
theorem aIb (w:World):Calls prog 59 #[.int .i64 4] w fun e w'=>e=.returned (.pointer (some ⟨w.heap.size+1,0,none⟩))∧w'=(w.alloc (.map #[] 0)).alloc (.cells #[.slice none 0 0,.map (some w.heap.size),.int .i64 4] 228):=by
 have hmk:∀W,(Instr.makeMap 97 none).run prog W=.ok (.map (some W.heap.size)) (W.alloc (.map #[] 0)):=fun W=>by kernel_rfl
 go_enter func59,ntmps59
 go_wp2
 go_ret
 exact⟨by simp,rfl⟩
theorem aIj (w:World) (o0 o1 o2 o3:Obj):((((w.alloc o0).alloc o1).alloc o2).alloc o3).heap[w.heap.size]?=some o0∧((((w.alloc o0).alloc o1).alloc o2).alloc o3).heap[w.heap.size+1]?=some o1∧((((w.alloc o0).alloc o1).alloc o2).alloc o3).heap[w.heap.size+2]?=some o2∧((((w.alloc o0).alloc o1).alloc o2).alloc o3).heap[w.heap.size+3]?=some o3:=by
 have e1:(w.alloc o0).heap.size=w.heap.size+1:=by simp
 have e2:((w.alloc o0).alloc o1).heap.size=w.heap.size+2:=by simp
 have e3:(((w.alloc o0).alloc o1).alloc o2).heap.size=w.heap.size+3:=by simp
 have a3:=aN (((w.alloc o0).alloc o1).alloc o2) o3
 have a2:=aN ((w.alloc o0).alloc o1) o2
 have a1:=aN (w.alloc o0) o1
 have a0:=aN w o0
 rw[e3] at a3
 rw[e2] at a2
 rw[e1] at a1
 exact⟨(Below.heap_alloc _ _ _ (by omega)).trans ((Below.heap_alloc _ _ _ (by omega)).trans ((Below.heap_alloc _ _ _ (by omega)).trans a0)),(Below.heap_alloc _ _ _ (by omega)).trans ((Below.heap_alloc _ _ _ (by omega)).trans a1),(Below.heap_alloc _ _ _ (by omega)).trans a2,a3⟩
structure fB (qb hb pb db B:Nat) (xs:List (Int×Int)) (w:World):Prop where
 box:w.heap[qb]?=some (.cells #[.pointer (some ⟨hb,0,none⟩),.int .i64 10,.map (some db)] 135 (0,0))
 heap:kP hb pb B xs w
 dirty:∃clk,w.heap[db]?=some (.map #[] clk)
 ne:db≠pb
 lo:B≤qb∧B≤hb∧B≤pb∧B≤db
theorem aDi (w:World):Calls prog 22 #[.int .i64 4,.int .i64 10] w fun e w'=>∃qb hb pb db,e=.returned (.pointer (some ⟨qb,0,none⟩))∧fB qb hb pb db w.heap.size [] w'∧Below w.heap.size w w'∧qb<w'.heap.size:=by
 have hmk:∀W,(Instr.makeMap 133 none).run prog W=.ok (.map (some W.heap.size)) (W.alloc (.map #[] 0)):=fun W=>by kernel_rfl
 have HH:=Hd (fun W=>aIb W)
 go_enter func22,ntmps22
 go_wp2_with (go_at_call 59;go_must (refine(HH.out _).mono ?_;rintro e W1 ⟨rfl,rfl⟩))
 go_ret
 obtain⟨a0,a1,a2,a3⟩:=aIj w (.map #[] 0) (.cells #[.slice none 0 0,.map (some w.heap.size),.int .i64 4] 228) (.map #[] 0) (.cells #[.pointer (some ⟨w.heap.size+1,0,none⟩),.int .i64 10,.map (some (w.heap.size+2))] 135)
 refine⟨w.heap.size+3,w.heap.size+1,w.heap.size,w.heap.size+2,rfl,⟨a3,⟨none,0,#[],0,a1,En.Own.none_ _ _ _,a0,.inl ⟨rfl,rfl⟩⟩,⟨0,a2⟩,by omega,by omega⟩,blw,?_⟩
 exact(gLt a3)
end Go.Proofs.YtlibhkkckgkkkaaGreatDoor.Tf
