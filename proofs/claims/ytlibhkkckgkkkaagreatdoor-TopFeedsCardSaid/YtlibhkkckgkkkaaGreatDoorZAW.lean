/- Part of the proof of TopFeeds: TreB BuiC TreD TreE TreF. -/
import Derived.Test.YtlibhkkckgkkkaaGreatDoorZAU
import Derived.Test.YtlibhkkckgkkkaaGreatDoorZAV
import Derived.Lib.OwnKind
set_option maxHeartbeats 2000000
set_option maxRecDepth 100000
namespace Go.Proofs.YtlibhkkckgkkkaaGreatDoor.Tf
open Go.RowKit Go.Proofs.YtlibhkkckgkkkaaGreatDoor.Mem Go.Proofs.YtlibhkkckgkkkaaGreatDoor.Boo Go.Proofs.Tryz
theorem uX:(prog.info? 119).map (·.size)=some 2:=by kernel_rfl
theorem aH5:(prog.info? 5).map (fun i=>(i.zero,i.size,i.bytes))=some (some (.int .u8 0),1,1):=by kernel_rfl
theorem aMj:liesAt prog prog.depth 278 (2 / prog.cellsOf 278) 0 119 1=true:=by kernel_rfl
theorem aJz:prog.cellsOf 5=1:=by kernel_rfl
abbrev IsB (b:Nat) (l:List UInt8) (w:World):Prop:=Lib.IsBuilder 278 5 b b (Lib.byteCells l) w
structure bG (b:Nat) (w w':World):Prop where
 below:Below b w w'
 other:Lib.OthersKept 5 (some b) w w'
 size:w.heap.size≤w'.heap.size
theorem bG.refl (b:Nat) (w:World):bG b w w:=⟨bR,Lib.OthersKept.refl _ _ _,nR⟩
theorem bG.trans {b:Nat} {w1 w2 w3:World} (h:bG b w1 w2) (k:bG b w2 w3):bG b w1 w3:=⟨h.below.trans k.below,h.other.trans k.other,Nat.le_trans h.size k.size⟩
theorem bG.alloc {b:Nat} {w w1:World} (h:bG b w w1) (hb:b≤w1.heap.size) (o:Obj):bG b w (w1.alloc o):=⟨h.below.alloc hb o,h.other.alloc o,by have:=h.size;simp;omega⟩
theorem bG.drew {b:Nat} {w w1:World} (h:bG b w w1):bG b w w1.drew:=⟨aI h.below,h.other.drew,h.size⟩
theorem bG.drewN {b:Nat} {w w1:World} (h:bG b w w1) (n:Nat):bG b w (w1.drewN n):=⟨aL h.below n,h.other,h.size⟩
theorem bG.of_below {b:Nat} {w w1 w2:World} (h:bG b w w1) (hb:b≤w1.heap.size) (k:Below w1.heap.size w1 w2):bG b w w2:=⟨bF h.below hb k,fun i o hi hne ho=>by
 have h1:=h.other i o hi hne ho
 exact(k.block i (gLt h1)).trans h1,by have:=h.size;have:=k.size;omega⟩
theorem bG.block {b:Nat} {w w':World} (h:bG b w w') {X:Nat} {cs:Array Value} {t:TypeId} {fz:Nat×Nat} (hX:w.heap[X]?=some (.cells cs t fz)) (hne:X≠b) (ht:t≠5):w'.heap[X]?=some (.cells cs t fz):=
 h.other X _ hX (by simpa using hne) (fun c f e=>by injection e with _ e _;exact ht e)
theorem fN {b:Nat} {l:List UInt8} {w w':World} (h:IsB b l w) (hb:Below w.heap.size w w'):IsB b l w':=by
 have key:∀p,Lib.BuilderAt 278 5 b b p (Lib.byteCells l) w→Lib.BuilderAt 278 5 b b p (Lib.byteCells l) w':=fun p h=>by
  have hlt:=h.lt
  obtain⟨hB,v,hk,hown,hne⟩:=h
  exact⟨hB,v,(hb.block b hlt).trans hk,hown.kept (row:=none) ⟨hb.os,hb.tape,hb.output,hb.size,fun i hi _=>hb.block i hi⟩ (by cases v.ownBlock <;> simp),hne⟩
 exact h.imp (key _) (key _)
theorem lX {b:Nat} {l:List UInt8} {w:World} (h:IsB b l w):b<w.heap.size:=h.elim (fun h=>h.lt) (fun h=>h.lt)
theorem aCf (b:Nat) (w:World) (h0:w.cell? ⟨b,0,none⟩=some (.pointer (some ⟨b,0,none⟩))):Calls prog 103 #[.pointer (some ⟨b,0,none⟩)] w fun e w'=>e=.returned (.tuple #[])∧w'=w:=by
 obtain⟨j,hj,_⟩:=Option.map_eq_some_iff.1 uX
 go_enter func103,ntmps103
 go_wp2
 rw[Lib.run_neq_ptr_same w _ underlying116 hj]
 go_wp2
 go_end0
 exact⟨rfl,rfl⟩
theorem aJ6 (b:Nat) (w:World) (h0:w.cell? ⟨b,0,none⟩=some (.pointer none)) (hsh:w.shape? b=some (278,2)) (hfz:w.frozen? ⟨b,0,none⟩=false):Calls prog 103 #[.pointer (some ⟨b,0,none⟩)] w fun e w'=>e=.returned (.tuple #[])∧w'=w.setCell ⟨b,0,none⟩ (.pointer (some ⟨b,0,none⟩)):=by
 obtain⟨j,hj,hjs⟩:=Option.map_eq_some_iff.1 uX
 go_enter func103,ntmps103
 go_wp2
 rw[Lib.run_to_unsafe w ⟨b,0,none⟩ underlying116 underlying291 hj (by rw[hjs];decide) hsh (Nat.zero_lt_succ 1)]
 simp only[Result.andThen]
 rw[Oper.upon_value]
 go_wp2
 rw[run_callFunc_extern func190 (by kernel_rfl) (by kernel_rfl) (by kernel_rfl) (e:=Extern.AbiNoEscape.same) (by kernel_rfl)]
 rw[Lib.run_noEscape]
 simp only[Result.andThen]
 rw[Oper.upon_value]
 go_wp2
 rw[Lib.run_from_unsafe w ⟨b,0,none⟩ underlying291 underlying116 hj hsh aMj]
 simp only[Result.andThen]
 rw[Oper.upon_value]
 go_wp2
 go_end0
 exact⟨rfl,rfl⟩
theorem aJ7 (b:Nat) (l:List UInt8) (w:World) (h:IsB b l w):Calls prog 103 #[.pointer (some ⟨b,0,none⟩)] w fun e w'=>e=.returned (.tuple #[])∧Lib.BuilderAt 278 5 b b (.pointer (some ⟨b,0,none⟩)) (Lib.byteCells l) w'∧bG b w w':=by
 rcases h with h|h
 ·refine(aJ6 b w h.cell0 h.shape h.frozen0).mono ?_
  rintro e w' ⟨rfl,rfl⟩
  exact⟨rfl,h.used _,(Below.refl b w).setCell (p:=⟨b,0,none⟩) h.1 _,(Lib.OthersKept.refl _ _ w).setCell ⟨b,0,none⟩ rfl _,by simp[World.setCell]⟩
 ·refine(aCf b w h.cell0).mono ?_
  rintro e w' ⟨rfl,rfl⟩
  exact⟨rfl,h,bG.refl _ _⟩
theorem mV (l m:List UInt8):Lib.byteCells l++Lib.byteCells m=Lib.byteCells (l++m):=by simp[Lib.byteCells]
theorem aJ5 (b:Nat) (l:List UInt8) (s:ByteArray) (w:World) (h:IsB b l w) (hlen:l.length+s.size≤140737488355328):
 Calls prog 50 #[.pointer (some ⟨b,0,none⟩),.string s] w fun e w'=>e=.returned (.tuple #[.int .i64 s.size,.nilIface])∧IsB b (l++s.data.toList) w'∧bG b w w':=by
 obtain⟨i0,hi,hz0,hz1,hz2⟩:=info_parts aH5
 have hbl:=Lib.byteCells_length l
 have hlw:=lX h
 go_enter func50,ntmps50
 go_wp2_with (go_at_call 103;refine(aJ7 b l _ h).mono ?_)
 rintro e w1 ⟨rfl,h1,hk1⟩
 obtain⟨hB,v,hbk,hown,hne⟩:=h1
 have c0:w1.cell? ⟨b,0,none⟩=some (.pointer (some ⟨b,0,none⟩)):=by rw[Lib.cell_of_heap hbk];rfl
 have c1:w1.cell? ⟨b,1,none⟩=some v:=by rw[Lib.cell_of_heap hbk];rfl
 go_wp2_with (at_builtin;refine Lib.wpList_append_own_string _ rfl _ _ 117 9 rfl b 5 i0 underlying117 underlying9 hi hz0 hz1 hz2 _ _ _ rfl hown s rfl ?c3 ?c4 ?c5 ?_)
 case c3=>unfold maxLen;omega
 case c4=>omega
 case c5=>have:=hk1.size;omega
 intro v' w2 hown' hgrow _
 have hlt:=(gLt hbk)
 have hb2:w2.heap[b]?=some (.cells #[.pointer (some ⟨b,0,none⟩),v] 278 (0,0)):=by
  rw[hgrow.block b hlt (fun e=>hne e.symm)]
  exact hbk
 have d0:w2.cell? ⟨b,0,none⟩=some (.pointer (some ⟨b,0,none⟩)):=by rw[Lib.cell_of_heap hb2];rfl
 have d1:w2.cell? ⟨b,1,none⟩=some v:=by rw[Lib.cell_of_heap hb2];rfl
 have f1:=fH hb2 1
 obtain⟨ao,n',cap,rfl⟩:∃ao n' cap,v'=.slice ao n' cap:=by
  rcases hown'.2 with⟨hv,_⟩|⟨g,cap,cur,hv,_⟩
  ·exact⟨_,_,_,hv⟩
  ·exact⟨_,_,_,hv⟩
 go_wp2
 go_ret2
 refine⟨rfl,.inr ?_,⟨(hk1.below.grown hgrow (by have:=hk1.size;omega) (fun k hk=>(hown.lt k hk).1)).setCell (p:=⟨b,1,none⟩) nR _,(hk1.other.grown hgrow (Lib.ownsRow_kind hown)).setCell ⟨b,1,none⟩ rfl _,?_⟩⟩
 ·rw[←mV]
  exact Lib.BuilderAt.put (T:=278) (e:=5) nR hb2 (bs':=Lib.byteCells l++Lib.byteCells s.data.toList) (by
   have:Lib.strCells s=Lib.byteCells s.data.toList:=rfl
   rw[←this]
   simpa[Lib.strCells_length,Lib.byteCells_length] using hown') (by decide)
 ·have h3:=hk1.size
  have h4:=hgrow.size
  simp[World.setCell]
  omega
theorem aFd (b:Nat) (l:List UInt8) (w:World) (h:IsB b l w) (h0:l≠[]):
 Calls prog 53 #[.pointer (some ⟨b,0,none⟩)] w fun e w'=>e=.returned (.string (bl l))∧Below b w w':=by
 obtain⟨p,hAt⟩:∃p,Lib.BuilderAt 278 5 b b p (Lib.byteCells l) w:=by
  rcases h with h|h
  ·exact⟨_,h⟩
  ·exact⟨_,h⟩
 obtain⟨hB,v,hbk,hown,hne⟩:=hAt
 have hl0:l.length≠0:=by simpa using h0
 rw[Lib.byteCells_length] at hown
 obtain⟨g,cap,cur,rfl,hbg,hg,hnc,hcm,hcs,htake⟩:∃g cap cur,v=.slice (some ⟨g,0,none⟩) l.length cap∧b≤g∧w.heap[g]?=some (.cells cur 5 (0,0))∧l.length≤cap∧cap≤maxLen∧cur.size=cap * 1∧cur.toList.take (l.length * 1)=Lib.byteCells l:=by
  rcases hown.2 with⟨_,hz⟩|⟨g,cap,cur,hv,r⟩
  ·exact absurd hz hl0
  ·exact⟨g,cap,cur,hv,r⟩
 have c1:w.drew.cell? ⟨b,1,none⟩=some (.slice (some ⟨g,0,none⟩) l.length cap):=by
  have:w.drew.heap[b]?=some (.cells #[p,.slice (some ⟨g,0,none⟩) l.length cap] 278 (0,0)):=hbk
  rw[Lib.cell_of_heap this];rfl
 have hSD:(Builtin.unsafeSliceData_ #[117] 222 #[.slice (some ⟨g,0,none⟩) l.length cap]).run prog w.drew=.ok (.pointer (some ⟨g,0,none⟩)) w.drew:=
  Lib.run_unsafeSliceData_row _ _ _ _ _ _ (by omega)
 have hUS:(Builtin.unsafeString_ #[222,3] 9 #[.pointer (some ⟨g,0,none⟩),.int .i64 l.length]).run prog w.drew=.ok (.string ⟨l.toArray⟩) (w.drew.freeze ⟨g,0,none⟩ l.length):=by
  refine Lib.run_unsafeString_row w.drew 222 3 9 5 underlying222 aJz g cur.size (by have hg':w.drew.heap[g]?=some (.cells cur 5 (0,0)):=hg;simp[World.shape?,hg']) l h0 (by omega) (by unfold maxLen at hcm;omega) ?_
  intro j x hx
  have:=hown.cells (g:=g) rfl j (.int .u8 x.toNat) (by simp[Lib.byteCells,hx])
  exact this
 have HB:=Hd (Lib.below_freeze (Below.drew (Below.refl b w)) (p:=⟨g,0,none⟩) hbg l.length)
 clear hown hbg htake
 go_enter func53,ntmps53
 go_wp2
 go_region
 all_goals (go_wp2;go_ret;exact⟨rfl,HB.out⟩)
theorem aMk:liesAt prog prog.depth 119 (2 / prog.cellsOf 119) 0 119 1=true:=by kernel_rfl
abbrev IsC (b:Nat) (l:List UInt8) (w:World):Prop:=Lib.IsBuilder 119 5 b b (Lib.byteCells l) w
theorem aPv {b:Nat} {l:List UInt8} {w:World} (h:IsC b l w):b<w.heap.size:=h.elim (fun h=>h.lt) (fun h=>h.lt)
theorem aJ3 (b:Nat) (w:World) (h0:w.cell? ⟨b,0,none⟩=some (.pointer none)) (hsh:w.shape? b=some (119,2)) (hfz:w.frozen? ⟨b,0,none⟩=false):Calls prog 103 #[.pointer (some ⟨b,0,none⟩)] w fun e w'=>e=.returned (.tuple #[])∧w'=w.setCell ⟨b,0,none⟩ (.pointer (some ⟨b,0,none⟩)):=by
 obtain⟨j,hj,hjs⟩:=Option.map_eq_some_iff.1 uX
 go_enter func103,ntmps103
 go_wp2
 rw[Lib.run_to_unsafe w ⟨b,0,none⟩ underlying116 underlying291 hj (by rw[hjs];decide) hsh (Nat.zero_lt_succ 1)]
 simp only[Result.andThen]
 rw[Oper.upon_value]
 go_wp2
 rw[run_callFunc_extern func190 (by kernel_rfl) (by kernel_rfl) (by kernel_rfl) (e:=Extern.AbiNoEscape.same) (by kernel_rfl)]
 rw[Lib.run_noEscape]
 simp only[Result.andThen]
 rw[Oper.upon_value]
 go_wp2
 rw[Lib.run_from_unsafe w ⟨b,0,none⟩ underlying291 underlying116 hj hsh aMk]
 simp only[Result.andThen]
 rw[Oper.upon_value]
 go_wp2
 go_end0
 exact⟨rfl,rfl⟩
theorem aJ4 (b:Nat) (l:List UInt8) (w:World) (h:IsC b l w):Calls prog 103 #[.pointer (some ⟨b,0,none⟩)] w fun e w'=>e=.returned (.tuple #[])∧Lib.BuilderAt 119 5 b b (.pointer (some ⟨b,0,none⟩)) (Lib.byteCells l) w'∧bG b w w':=by
 rcases h with h|h
 ·refine(aJ3 b w h.cell0 h.shape h.frozen0).mono ?_
  rintro e w' ⟨rfl,rfl⟩
  exact⟨rfl,h.used _,(Below.refl b w).setCell (p:=⟨b,0,none⟩) h.1 _,(Lib.OthersKept.refl _ _ w).setCell ⟨b,0,none⟩ rfl _,by simp[World.setCell]⟩
 ·refine(aCf b w h.cell0).mono ?_
  rintro e w' ⟨rfl,rfl⟩
  exact⟨rfl,h,bG.refl _ _⟩
theorem aJ2 (b:Nat) (l:List UInt8) (s:ByteArray) (w:World) (h:IsC b l w) (hlen:l.length+s.size≤140737488355328):
 Calls prog 50 #[.pointer (some ⟨b,0,none⟩),.string s] w fun e w'=>e=.returned (.tuple #[.int .i64 s.size,.nilIface])∧IsC b (l++s.data.toList) w'∧bG b w w':=by
 obtain⟨i0,hi,hz0,hz1,hz2⟩:=info_parts aH5
 have hbl:=Lib.byteCells_length l
 have hlw:=aPv h
 go_enter func50,ntmps50
 go_wp2_with (go_at_call 103;refine(aJ4 b l _ h).mono ?_)
 rintro e w1 ⟨rfl,h1,hk1⟩
 obtain⟨hB,v,hbk,hown,hne⟩:=h1
 have c0:w1.cell? ⟨b,0,none⟩=some (.pointer (some ⟨b,0,none⟩)):=by rw[Lib.cell_of_heap hbk];rfl
 have c1:w1.cell? ⟨b,1,none⟩=some v:=by rw[Lib.cell_of_heap hbk];rfl
 go_wp2_with (at_builtin;refine Lib.wpList_append_own_string _ rfl _ _ 117 9 rfl b 5 i0 underlying117 underlying9 hi hz0 hz1 hz2 _ _ _ rfl hown s rfl ?c3 ?c4 ?c5 ?_)
 case c3=>unfold maxLen;omega
 case c4=>omega
 case c5=>have:=hk1.size;omega
 intro v' w2 hown' hgrow _
 have hlt:=(gLt hbk)
 have hb2:w2.heap[b]?=some (.cells #[.pointer (some ⟨b,0,none⟩),v] 119 (0,0)):=by
  rw[hgrow.block b hlt (fun e=>hne e.symm)]
  exact hbk
 have d0:w2.cell? ⟨b,0,none⟩=some (.pointer (some ⟨b,0,none⟩)):=by rw[Lib.cell_of_heap hb2];rfl
 have d1:w2.cell? ⟨b,1,none⟩=some v:=by rw[Lib.cell_of_heap hb2];rfl
 have f1:=fH hb2 1
 obtain⟨ao,n',cap,rfl⟩:∃ao n' cap,v'=.slice ao n' cap:=by
  rcases hown'.2 with⟨hv,_⟩|⟨g,cap,cur,hv,_⟩
  ·exact⟨_,_,_,hv⟩
  ·exact⟨_,_,_,hv⟩
 go_wp2
 go_ret2
 refine⟨rfl,.inr ?_,⟨(hk1.below.grown hgrow (by have:=hk1.size;omega) (fun k hk=>(hown.lt k hk).1)).setCell (p:=⟨b,1,none⟩) nR _,(hk1.other.grown hgrow (Lib.ownsRow_kind hown)).setCell ⟨b,1,none⟩ rfl _,?_⟩⟩
 ·rw[←mV]
  exact Lib.BuilderAt.put (T:=119) (e:=5) nR hb2 (bs':=Lib.byteCells l++Lib.byteCells s.data.toList) (by
   have:Lib.strCells s=Lib.byteCells s.data.toList:=rfl
   rw[←this]
   simpa[Lib.strCells_length,Lib.byteCells_length] using hown') (by decide)
 ·have h3:=hk1.size
  have h4:=hgrow.size
  simp[World.setCell]
  omega
theorem aFc (b:Nat) (l:List UInt8) (w:World) (h:IsC b l w) (h0:l≠[]):
 Calls prog 53 #[.pointer (some ⟨b,0,none⟩)] w fun e w'=>e=.returned (.string (bl l))∧Below b w w':=by
 obtain⟨p,hAt⟩:∃p,Lib.BuilderAt 119 5 b b p (Lib.byteCells l) w:=by
  rcases h with h|h
  ·exact⟨_,h⟩
  ·exact⟨_,h⟩
 obtain⟨hB,v,hbk,hown,hne⟩:=hAt
 have hl0:l.length≠0:=by simpa using h0
 rw[Lib.byteCells_length] at hown
 obtain⟨g,cap,cur,rfl,hbg,hg,hnc,hcm,hcs,htake⟩:∃g cap cur,v=.slice (some ⟨g,0,none⟩) l.length cap∧b≤g∧w.heap[g]?=some (.cells cur 5 (0,0))∧l.length≤cap∧cap≤maxLen∧cur.size=cap * 1∧cur.toList.take (l.length * 1)=Lib.byteCells l:=by
  rcases hown.2 with⟨_,hz⟩|⟨g,cap,cur,hv,r⟩
  ·exact absurd hz hl0
  ·exact⟨g,cap,cur,hv,r⟩
 have c1:w.drew.cell? ⟨b,1,none⟩=some (.slice (some ⟨g,0,none⟩) l.length cap):=by
  have:w.drew.heap[b]?=some (.cells #[p,.slice (some ⟨g,0,none⟩) l.length cap] 119 (0,0)):=hbk
  rw[Lib.cell_of_heap this];rfl
 have hSD:(Builtin.unsafeSliceData_ #[117] 222 #[.slice (some ⟨g,0,none⟩) l.length cap]).run prog w.drew=.ok (.pointer (some ⟨g,0,none⟩)) w.drew:=
  Lib.run_unsafeSliceData_row _ _ _ _ _ _ (by omega)
 have hUS:(Builtin.unsafeString_ #[222,3] 9 #[.pointer (some ⟨g,0,none⟩),.int .i64 l.length]).run prog w.drew=.ok (.string ⟨l.toArray⟩) (w.drew.freeze ⟨g,0,none⟩ l.length):=by
  refine Lib.run_unsafeString_row w.drew 222 3 9 5 underlying222 aJz g cur.size (by have hg':w.drew.heap[g]?=some (.cells cur 5 (0,0)):=hg;simp[World.shape?,hg']) l h0 (by omega) (by unfold maxLen at hcm;omega) ?_
  intro j x hx
  have:=hown.cells (g:=g) rfl j (.int .u8 x.toNat) (by simp[Lib.byteCells,hx])
  exact this
 have HB:=Hd (Lib.below_freeze (Below.drew (Below.refl b w)) (p:=⟨g,0,none⟩) hbg l.length)
 clear hown hbg htake
 go_enter func53,ntmps53
 go_wp2
 go_region
 all_goals (go_wp2;go_ret;exact⟨rfl,HB.out⟩)
theorem gZ (a b:List Pc):cP (a++b)=cP a++cP b:=by
 induction a with
 |nil=>rfl
 |cons p a ih=>rw[List.cons_append,cP,cP,ih];simp
theorem aDs {xs:List Ex}:∀{f:Bool} {k:Nat} {x:Ex},xs[k]?=some x→iC f (xs.take (k+1))=iC f (xs.take k)++((if f&&decide (k=0) then[] else[pcV])++eR x):=by
 induction xs with
 |nil=>intro f k x h;simp at h
 |cons y xs ih=>
  intro f k x h
  cases k with
  |zero=>simp at h;subst h;cases f <;> simp[iC]
  |succ k=>
   have:=@ih false k x (by simpa using h)
   rw[List.take_succ_cons,List.take_succ_cons,iC,iC,this]
   simp
def cM (xs:List Ex):List UInt8:=cP (iC true xs)
theorem kN {xs:List Ex} {k:Nat} {x:Ex} (h:xs[k]?=some x):cM (xs.take (k+1))=cM (xs.take k)++((if k=0 then[] else[44,32])++aM x):=by
 unfold cM aM
 rw[aDs h,gZ,gZ]
 by_cases hk:k=0 <;> simp[hk,cP]
def jO (b:Nat) (l:List UInt8) (w:World) (e:Ending) (w':World):Prop:=e=.returned (.tuple #[])∧IsB b l w'∧bG b w w'
def PrC (w0:World) (x:Ex) (u:EV):Prop:=∀l w,Below w0.heap.size w0 w→IsB w0.heap.size l w→(l++aM x).length≤100000→Calls prog 167 #[.pointer (some ⟨w0.heap.size,0,none⟩),u.v] w (jO w0.heap.size (l++aM x) w)
def cG (m:Nat):Option ByteArray→List UInt8
 |none=>[]
 |some t=>(if m=0 then[] else[44,32])++t.data.toList
def aKq (b:Nat) (w:World) (M:Value):Option ByteArray→Prop
 |none=>M=.slice none 0 0
 |some t=>∃q,M=.slice (some ⟨q,0,none⟩) 1 1∧w.heap[q]?=some (.cells #[.string t] 9 (0,0))∧q≠b
theorem yB {b:Nat} {w0 w w':World} (h:Below b w0 w) (k:bG b w w'):Below b w0 w':=h.trans k.below
theorem qH (b:Nat) (l:List UInt8) (s:ByteArray) (w:World) (h:IsB b l w) (hlen:l.length≤100000) (hs:s.size≤100000):
 Calls prog 50 #[.pointer (some ⟨b,0,none⟩),.string s] w fun e w'=>e=.returned (.tuple #[.int .i64 s.size,.nilIface])∧IsB b (l++s.data.toList) w'∧bG b w w':=aJ5 b l s w h (by omega)
theorem oT (xs:List Ex) (k:Nat):(cM (xs.take k)).length≤(cM xs).length:=by
 have:∀n,k≤n→n≤xs.length→(cM (xs.take k)).length≤(cM (xs.take n)).length:=by
  intro n hn hl
  induction n with
  |zero=>obtain rfl:k=0:=by omega
         exact nR
  |succ n ih=>
   rcases Nat.eq_or_lt_of_le hn with rfl|h
   ·exact nR
   ·have h1:=ih (by omega) (by omega)
    have h2:=kN (gE (show n<xs.length by omega))
    rw[h2,lA]
    omega
 rcases Nat.lt_or_ge xs.length k with h|h
 ·rw[List.take_of_length_le (by omega)];exact nR
 ·have:=this xs.length h nR
  rwa [List.take_length] at this
theorem aFb (w0:World) (word:ByteArray) (A:Option Addr) (c m:Nat) (vs:List EV) (xs:List Ex) (hm:xs.length=m) (hv:vs.length=m) (hat:dX.At w0 A c vs) (hpr:∀(i:Nat) (x:Ex) (u:EV),xs[i]?=some x→vs[i]?=some u→PrC w0 x u)
 (M:Value) (l:List UInt8) (w:World) (hb:Below w0.heap.size w0 w) (hB:IsB w0.heap.size l w) (hM:aKq w0.heap.size w M none) (hlen:l.length+(word.size+1+(cM xs).length+(cG m none).length+1)≤100000) (hm9:m≤9):
 Calls prog 230 #[.pointer (some ⟨w0.heap.size,0,none⟩),.string word,.slice A m c,M] w (jO w0.heap.size (l++(word.data.toList++([40]++(cM xs++(cG m none++[41]))))) w):=by
 obtain rfl:=hM
 have hlb:=lX hB
 have HAT:=Hd hat
 have HPR:=Hd hpr
 have HM:=Hd hm
 have HV:=Hd hv
 have HBw:=Hd hb
 have HIB:=Hd hB
 have HLEN:=Hd hlen
 have hsz:l.length+(word.size+1)≤100000:=by omega
 have HSZ:=Hd hsz
 have HMX:Hid (m≤c∧c≤9223372036854775807):=Hd ⟨by have:=hat.le;omega,hat.max⟩
 have HM9:=Hd hm9
 obtain⟨b,hbe⟩:∃b,b=w0.heap.size:=⟨_,rfl⟩
 have HBE:=Hd hbe
 rw[←hbe] at hlb HIB ⊢
 clear hat hpr hm hv hb hB hlen hsz hm9 hbe
 have hadd:∀W,(Op.stringOp .add word ⟨#[40]⟩).run prog W=.ok (.string (word++⟨#[40]⟩)) W:=fun W=>run_string_add_sum W word ⟨#[40]⟩ (by have:=HSZ.out;have:(ByteArray.mk #[40]).size=1:=rfl;omega)
 go_enter func230,ntmps230
 go_wp2_with fail
 have hl1:l++(word++(⟨#[40]⟩:ByteArray)).data.toList=l++(word.data.toList++[40]):=by rw[ByteArray.data_append,Array.toList_append]
 have q1:l.length≤100000:=by have:=HSZ.out;omega
 have q2:(word++(⟨#[40]⟩:ByteArray)).size≤100000:=by have:=HSZ.out;rw[ByteArray.size_append];have:(ByteArray.mk #[40]).size=1:=rfl;omega
 have q3:=qH b l (word++(⟨#[40]⟩:ByteArray)) w HIB.out q1 q2
 rw[hl1] at q3
 refine q3.mono ?_
 clear q1 q2 q3 hl1
 rintro e W1 ⟨rfl,hB1,hk1⟩
 obtain⟨l1,hl1⟩:∃l1,l1=l++(word.data.toList++[40]):=⟨_,rfl⟩
 rw[←hl1] at hB1
 have HL1:=Hd hl1
 have HN1:Hid (l1.length+(cM xs).length+(cG m none).length+1≤100000):=Hd (by
  have:=HLEN.out
  rw[hl1]
  simp only[lA,List.length_cons,List.length_nil]
  have e:word.data.toList.length=word.size:=bI word
  omega)
 have HB1:=Hd hB1
 have HK1:=Hd hk1
 clear hB1 hk1 hl1
 go_wp2_with fail
 go_loopw [20] (fun iv wr=>∃i:Nat,i≤m∧iv=.int .i64 i∧Hid (IsB b (l1++cM (xs.take i)) wr)∧Hid (bG b w wr)) (fun iv _=>m-(intOf iv).toNat)
 case atStart=>exact⟨0,Nat.zero_le _,rfl,Hd (by simpa[cM,iC,cP] using HB1.out),HK1⟩
 case round=>
  obtain⟨i,him,rfl,HBi,HKi⟩:=hrel
  by_cases hlt:i<m
  ·have hbr:Below w0.heap.size w0 wr:=by
    have:=HBw.out.trans (by rw[←HBE.out];exact HKi.out.below:Below w0.heap.size w wr)
    exact this
   have hxi:xs[i]?=some (xs[i]'(by have:=HM.out;omega)):=gE _
   have hvi:vs[i]?=some (vs[i]'(by have:=HV.out;omega)):=gE _
   have HP:=HPR.out i _ _ hxi hvi
   have hst:=kN hxi
   have hln:=oT xs (i+1)
   obtain⟨ba,off,rfl,hbl,c0,c1,c2,c3⟩:=eY (HAT.out.below hbr) i _ hvi
   generalize vs[i]'(by have:=HV.out;omega)=u at HP c0 c1 c2 c3 hvi
   generalize xs[i]'(by have:=HM.out;omega)=y at HP hxi hst
   obtain⟨uk,un,us,uA,um,uc⟩:=u
   dsimp only at c0 c1 c2 c3
   have HZI:Hid (wrap64 ((i:Int)+1)=((i+1:Nat):Int)):=Hd (by rw[Mem.w64 (by omega) (by have:=HMX.out;omega)];omega)
   have zlt:(i:Int)<(m:Int):=by omega
   have HLT:=Hd hlt
   have HP2:Hid (∀l W,Below b w0 W→IsB b l W→(l++aM y).length≤100000→Calls prog 167 #[.pointer (some ⟨b,0,none⟩),.agg #[.int .i64 uk,.int .i64 un,.string us,.slice uA um uc]] W (jO b (l++aM y) W)):=Hd (by
    intro l W h1 h2 h3
    rw[HBE.out] at h1 h2 ⊢
    exact HP l W h1 h2 h3)
   have HBR:Hid (Below b w0 wr):=Hd (by rw[HBE.out];exact hbr)
   have HST:=Hd hst
   have HLN:Hid (l1.length+(cM (xs.take (i+1))).length≤100000):=Hd (by have:=HN1.out;omega)
   have HBS:Hid (b<wr.heap.size):=Hd (lX HBi.out)
   clear HP hxi hvi hst hln hbr hlt
   by_cases hi0:i=0
   ·subst hi0
    simp only[Nat.zero_mul,Nat.add_zero] at c0 c1 c2 c3
    go_wp2_with fail
    have q1:=HP2.out (l1++cM (xs.take 0)) (wr.alloc (.cells #[.int .i64 uk,.int .i64 un,.string us,.slice uA um uc] 51)) (HBR.out.alloc (Nat.le_of_lt HBS.out) _) (fN HBi.out (aB bR _)) (by have h1:=HST.out;have h2:=HLN.out;rw[h1] at h2;simp only[if_true,lA,List.nil_append] at h2 ⊢;omega)
    refine q1.mono ?_
    clear q1
    rintro e W2 ⟨rfl,hB2,hk2⟩
    have HB2:Hid (IsB b (l1++cM (xs.take (0+1))) W2):=Hd (by rw[HST.out];simpa using hB2)
    have HK2:=Hd ((HKi.out.alloc (Nat.le_of_lt HBS.out) _).trans hk2)
    clear hB2 hk2
    go_wp2_with fail
    go_roundw
    case rel=>exact⟨0+1,HLT.out,(by first|rw[HZI.out]|rfl|simp),HB2,HK2⟩
    case measure=>have:=HLT.out;(try rw[HZI.out]);simp[intOf];omega
   ·have zgt:(0:Int)<(i:Int):=by omega
    have HI0:=Hd hi0
    clear hi0
    go_wp2_with fail
    have q1:=qH b (l1++cM (xs.take i)) ⟨#[44,32]⟩ (wr.alloc (.cells #[.int .i64 uk,.int .i64 un,.string us,.slice uA um uc] 51)) (fN HBi.out (aB bR _)) (by have h1:=HST.out;have h2:=HLN.out;rw[h1] at h2;simp only[lA] at h2 ⊢;omega) (by decide)
    refine q1.mono ?_
    clear q1
    rintro e W2 ⟨rfl,hB2,hk2⟩
    have hx2:=hk2.block (aN wr (.cells #[.int .i64 uk,.int .i64 un,.string us,.slice uA um uc] 51)) (by have:=HBS.out;omega) (by decide)
    have x0:=aA hx2 0
    have x1:=aA hx2 1
    have x2:=aA hx2 2
    have x3:=aA hx2 3
    have HK2:=Hd ((HKi.out.alloc (Nat.le_of_lt HBS.out) _).trans hk2)
    have HBR2:Hid (Below b w0 W2):=Hd (yB (HBR.out.alloc (Nat.le_of_lt HBS.out) _) hk2)
    have HB2:=Hd hB2
    clear hB2 hk2 hx2
    go_wp2_with fail
    have q1:=HP2.out _ W2 HBR2.out HB2.out (by have h1:=HST.out;have h2:=HLN.out;rw[h1,if_neg HI0.out] at h2;simp only[lA] at h2 ⊢;simp at h2 ⊢;omega)
    refine q1.mono ?_
    clear q1
    rintro e W3 ⟨rfl,hB3,hk3⟩
    have HB3:Hid (IsB b (l1++cM (xs.take (i+1))) W3):=Hd (by rw[HST.out,if_neg HI0.out];simpa using hB3)
    have HK3:=Hd (HK2.out.trans hk3)
    clear hB3 hk3
    go_wp2_with fail
    go_roundw
    case rel=>exact⟨i+1,HLT.out,(by first|rw[HZI.out]|rfl|simp),HB3,HK3⟩
    case measure=>have:=HLT.out;(try rw[HZI.out]);simp[intOf];omega
  ·obtain rfl:i=m:=by omega
   have HB5:Hid (IsB b (l1++cM xs) wr):=Hd (by have:=HBi.out;rw[←HM.out,List.take_length] at this;exact this)
   clear hlt
   go_wp2_with fail
   go_loopw [37] (fun iv w5=>iv=.int .i64 0∧w5=wr) (fun _ _=>0)
   case atStart=>exact⟨rfl,rfl⟩
   case round=>
    obtain⟨rfl,rfl⟩:=hrel
    go_wp2_with fail
    have q1:=qH b (l1++cM xs) ⟨#[41]⟩ _ HB5.out (by have:=HN1.out;simp only[lA] at this ⊢;omega) (by decide)
    refine q1.mono ?_
    clear q1
    rintro e W9 ⟨rfl,hB9,hk9⟩
    have HF9:Hid (jO b (l++(word.data.toList++([40]++(cM xs++(cG i none++[41]))))) w (.returned (.tuple #[])) W9):=Hd ⟨rfl,by have:=HL1.out;subst this;simpa[cG,List.append_assoc] using hB9,HKi.out.trans hk9⟩
    clear hB9 hk9
    go_wp2_with fail
    go_end0
    exact HF9.out
theorem aFa (w0:World) (word:ByteArray) (A:Option Addr) (c m:Nat) (vs:List EV) (xs:List Ex) (hm:xs.length=m) (hv:vs.length=m) (hat:dX.At w0 A c vs) (hpr:∀(i:Nat) (x:Ex) (u:EV),xs[i]?=some x→vs[i]?=some u→PrC w0 x u)
 (t:ByteArray) (M:Value) (l:List UInt8) (w:World) (hb:Below w0.heap.size w0 w) (hB:IsB w0.heap.size l w) (hM:aKq w0.heap.size w M (some t)) (hlen:l.length+(word.size+1+(cM xs).length+(cG m (some t)).length+1)≤100000) (hm9:m≤9):
 Calls prog 230 #[.pointer (some ⟨w0.heap.size,0,none⟩),.string word,.slice A m c,M] w (jO w0.heap.size (l++(word.data.toList++([40]++(cM xs++(cG m (some t)++[41]))))) w):=by
 obtain⟨q,rfl,hq,hqb⟩:=hM
 have hts:t.size≤100000:=by
  simp only[cG,lA] at hlen
  have e:t.data.toList.length=t.size:=bI t
  omega
 have hlb:=lX hB
 have HAT:=Hd hat
 have HPR:=Hd hpr
 have HM:=Hd hm
 have HV:=Hd hv
 have HBw:=Hd hb
 have HIB:=Hd hB
 have HLEN:=Hd hlen
 have hsz:l.length+(word.size+1)≤100000:=by omega
 have HSZ:=Hd hsz
 have HMX:Hid (m≤c∧c≤9223372036854775807):=Hd ⟨by have:=hat.le;omega,hat.max⟩
 have HM9:=Hd hm9
 obtain⟨b,hbe⟩:∃b,b=w0.heap.size:=⟨_,rfl⟩
 have HBE:=Hd hbe
 rw[←hbe] at hlb HIB hqb ⊢
 have HQ:=Hd hq
 have HQB:=Hd hqb
 have HTS:=Hd hts
 clear hq hqb hts
 clear hat hpr hm hv hb hB hlen hsz hm9 hbe
 have hadd:∀W,(Op.stringOp .add word ⟨#[40]⟩).run prog W=.ok (.string (word++⟨#[40]⟩)) W:=fun W=>run_string_add_sum W word ⟨#[40]⟩ (by have:=HSZ.out;have:(ByteArray.mk #[40]).size=1:=rfl;omega)
 go_enter func230,ntmps230
 go_wp2_with fail
 have hl1:l++(word++(⟨#[40]⟩:ByteArray)).data.toList=l++(word.data.toList++[40]):=by rw[ByteArray.data_append,Array.toList_append]
 have q1:l.length≤100000:=by have:=HSZ.out;omega
 have q2:(word++(⟨#[40]⟩:ByteArray)).size≤100000:=by have:=HSZ.out;rw[ByteArray.size_append];have:(ByteArray.mk #[40]).size=1:=rfl;omega
 have q3:=qH b l (word++(⟨#[40]⟩:ByteArray)) w HIB.out q1 q2
 rw[hl1] at q3
 refine q3.mono ?_
 clear q1 q2 q3 hl1
 rintro e W1 ⟨rfl,hB1,hk1⟩
 obtain⟨l1,hl1⟩:∃l1,l1=l++(word.data.toList++[40]):=⟨_,rfl⟩
 rw[←hl1] at hB1
 have HL1:=Hd hl1
 have HN1:Hid (l1.length+(cM xs).length+(cG m (some t)).length+1≤100000):=Hd (by
  have:=HLEN.out
  rw[hl1]
  simp only[lA,List.length_cons,List.length_nil]
  have e:word.data.toList.length=word.size:=bI word
  omega)
 have HB1:=Hd hB1
 have HK1:=Hd hk1
 clear hB1 hk1 hl1
 go_wp2_with fail
 go_loopw [20] (fun iv wr=>∃i:Nat,i≤m∧iv=.int .i64 i∧Hid (IsB b (l1++cM (xs.take i)) wr)∧Hid (bG b w wr)) (fun iv _=>m-(intOf iv).toNat)
 case atStart=>exact⟨0,Nat.zero_le _,rfl,Hd (by simpa[cM,iC,cP] using HB1.out),HK1⟩
 case round=>
  obtain⟨i,him,rfl,HBi,HKi⟩:=hrel
  by_cases hlt:i<m
  ·have hbr:Below w0.heap.size w0 wr:=by
    have:=HBw.out.trans (by rw[←HBE.out];exact HKi.out.below:Below w0.heap.size w wr)
    exact this
   have hxi:xs[i]?=some (xs[i]'(by have:=HM.out;omega)):=gE _
   have hvi:vs[i]?=some (vs[i]'(by have:=HV.out;omega)):=gE _
   have HP:=HPR.out i _ _ hxi hvi
   have hst:=kN hxi
   have hln:=oT xs (i+1)
   obtain⟨ba,off,rfl,hbl,c0,c1,c2,c3⟩:=eY (HAT.out.below hbr) i _ hvi
   generalize vs[i]'(by have:=HV.out;omega)=u at HP c0 c1 c2 c3 hvi
   generalize xs[i]'(by have:=HM.out;omega)=y at HP hxi hst
   obtain⟨uk,un,us,uA,um,uc⟩:=u
   dsimp only at c0 c1 c2 c3
   have HZI:Hid (wrap64 ((i:Int)+1)=((i+1:Nat):Int)):=Hd (by rw[Mem.w64 (by omega) (by have:=HMX.out;omega)];omega)
   have zlt:(i:Int)<(m:Int):=by omega
   have HLT:=Hd hlt
   have HP2:Hid (∀l W,Below b w0 W→IsB b l W→(l++aM y).length≤100000→Calls prog 167 #[.pointer (some ⟨b,0,none⟩),.agg #[.int .i64 uk,.int .i64 un,.string us,.slice uA um uc]] W (jO b (l++aM y) W)):=Hd (by
    intro l W h1 h2 h3
    rw[HBE.out] at h1 h2 ⊢
    exact HP l W h1 h2 h3)
   have HBR:Hid (Below b w0 wr):=Hd (by rw[HBE.out];exact hbr)
   have HST:=Hd hst
   have HLN:Hid (l1.length+(cM (xs.take (i+1))).length≤100000):=Hd (by have:=HN1.out;omega)
   have HBS:Hid (b<wr.heap.size):=Hd (lX HBi.out)
   clear HP hxi hvi hst hln hbr hlt
   by_cases hi0:i=0
   ·subst hi0
    simp only[Nat.zero_mul,Nat.add_zero] at c0 c1 c2 c3
    go_wp2_with fail
    have q1:=HP2.out (l1++cM (xs.take 0)) (wr.alloc (.cells #[.int .i64 uk,.int .i64 un,.string us,.slice uA um uc] 51)) (HBR.out.alloc (Nat.le_of_lt HBS.out) _) (fN HBi.out (aB bR _)) (by have h1:=HST.out;have h2:=HLN.out;rw[h1] at h2;simp only[if_true,lA,List.nil_append] at h2 ⊢;omega)
    refine q1.mono ?_
    clear q1
    rintro e W2 ⟨rfl,hB2,hk2⟩
    have HB2:Hid (IsB b (l1++cM (xs.take (0+1))) W2):=Hd (by rw[HST.out];simpa using hB2)
    have HK2:=Hd ((HKi.out.alloc (Nat.le_of_lt HBS.out) _).trans hk2)
    clear hB2 hk2
    go_wp2_with fail
    go_roundw
    case rel=>exact⟨0+1,HLT.out,(by first|rw[HZI.out]|rfl|simp),HB2,HK2⟩
    case measure=>have:=HLT.out;(try rw[HZI.out]);simp[intOf];omega
   ·have zgt:(0:Int)<(i:Int):=by omega
    have HI0:=Hd hi0
    clear hi0
    go_wp2_with fail
    have q1:=qH b (l1++cM (xs.take i)) ⟨#[44,32]⟩ (wr.alloc (.cells #[.int .i64 uk,.int .i64 un,.string us,.slice uA um uc] 51)) (fN HBi.out (aB bR _)) (by have h1:=HST.out;have h2:=HLN.out;rw[h1] at h2;simp only[lA] at h2 ⊢;omega) (by decide)
    refine q1.mono ?_
    clear q1
    rintro e W2 ⟨rfl,hB2,hk2⟩
    have hx2:=hk2.block (aN wr (.cells #[.int .i64 uk,.int .i64 un,.string us,.slice uA um uc] 51)) (by have:=HBS.out;omega) (by decide)
    have x0:=aA hx2 0
    have x1:=aA hx2 1
    have x2:=aA hx2 2
    have x3:=aA hx2 3
    have HK2:=Hd ((HKi.out.alloc (Nat.le_of_lt HBS.out) _).trans hk2)
    have HBR2:Hid (Below b w0 W2):=Hd (yB (HBR.out.alloc (Nat.le_of_lt HBS.out) _) hk2)
    have HB2:=Hd hB2
    clear hB2 hk2 hx2
    go_wp2_with fail
    have q1:=HP2.out _ W2 HBR2.out HB2.out (by have h1:=HST.out;have h2:=HLN.out;rw[h1,if_neg HI0.out] at h2;simp only[lA] at h2 ⊢;simp at h2 ⊢;omega)
    refine q1.mono ?_
    clear q1
    rintro e W3 ⟨rfl,hB3,hk3⟩
    have HB3:Hid (IsB b (l1++cM (xs.take (i+1))) W3):=Hd (by rw[HST.out,if_neg HI0.out];simpa using hB3)
    have HK3:=Hd (HK2.out.trans hk3)
    clear hB3 hk3
    go_wp2_with fail
    go_roundw
    case rel=>exact⟨i+1,HLT.out,(by first|rw[HZI.out]|rfl|simp),HB3,HK3⟩
    case measure=>have:=HLT.out;(try rw[HZI.out]);simp[intOf];omega
  ·obtain rfl:i=m:=by omega
   have HB5:Hid (IsB b (l1++cM xs) wr):=Hd (by have:=HBi.out;rw[←HM.out,List.take_length] at this;exact this)
   clear hlt
   go_wp2_with fail
   go_loopw [37] (fun iv w5=>(iv=.int .i64 0∧w5=wr)∨(iv=.int .i64 1∧Hid (IsB b (l1++(cM xs++cG i (some t))) w5)∧Hid (bG b w w5))) (fun iv _=>1-(intOf iv).toNat)
   case atStart=>exact .inl ⟨rfl,rfl⟩
   case round=>
    rcases hrel with⟨rfl,rfl⟩|⟨rfl,HB7,HK7⟩
    ·by_cases hm0:i=0
     ·subst hm0
      have HQ5:=Hd (HKi.out.block HQ.out HQB.out (by decide))
      have c5:=aA HQ5.out 0
      go_wp2_with fail
      have HK6:=HKi
      have q1:=qH b (l1++cM xs) t wr HB5.out (by have:=HN1.out;simp only[lA] at this ⊢;omega) HTS.out
      refine q1.mono ?_
      clear q1
      rintro e W7 ⟨rfl,hB7,hk7⟩
      have HB7:Hid (IsB b (l1++(cM xs++cG 0 (some t))) W7):=Hd (by simpa[cG] using hB7)
      have HK7:=Hd (HK6.out.trans hk7)
      clear hB7 hk7
      go_wp2_with fail
      go_roundw
      case rel=>first|exact .inr ⟨rfl,HB7,HK7⟩|((repeat apply Exists.intro);exact⟨.inr ⟨rfl,HB7,HK7⟩,rfl⟩)
      case measure=>simp[intOf]
     ·have HM0:=Hd hm0
      have zg:(0:Int)<(i:Int):=by omega
      have z9:wrap64 ((i:Int))=(i:Int):=Mem.w64 (by omega) (by have:=HM9.out;omega)
      clear hm0
      have HQ5:=Hd (HKi.out.block HQ.out HQB.out (by decide))
      have c5:=aA HQ5.out 0
      go_wp2_with fail
      have q1:=qH b (l1++cM xs) ⟨#[44,32]⟩ wr HB5.out (by have:=HN1.out;simp only[lA] at this ⊢;omega) (by decide)
      refine q1.mono ?_
      clear q1
      rintro e W6 ⟨rfl,hB6,hk6⟩
      have HB6:=Hd hB6
      have HK6:=Hd (HKi.out.trans hk6)
      clear hB6 hk6
      go_wp2_with fail
      have q1:=qH b (l1++cM xs++[44,32]) t W6 HB6.out (by have:=HN1.out;simp only[cG,if_neg HM0.out,lA,List.length_cons,List.length_nil] at this ⊢;omega) HTS.out
      refine q1.mono ?_
      clear q1
      rintro e W7 ⟨rfl,hB7,hk7⟩
      have HB7:Hid (IsB b (l1++(cM xs++cG i (some t))) W7):=Hd (by simpa[cG,HM0.out] using hB7)
      have HK7:=Hd (HK6.out.trans hk7)
      clear hB7 hk7
      go_wp2_with fail
      go_roundw
      case rel=>first|exact .inr ⟨rfl,HB7,HK7⟩|((repeat apply Exists.intro);exact⟨.inr ⟨rfl,HB7,HK7⟩,rfl⟩)
      case measure=>simp[intOf]
    ·go_wp2_with fail
     have q1:=qH b (l1++(cM xs++cG i (some t))) ⟨#[41]⟩ _ HB7.out (by have:=HN1.out;simp only[lA] at this ⊢;omega) (by decide)
     refine q1.mono ?_
     clear q1
     rintro e W9 ⟨rfl,hB9,hk9⟩
     have HF9:Hid (jO b (l++(word.data.toList++([40]++(cM xs++(cG i (some t)++[41]))))) w (.returned (.tuple #[])) W9):=Hd ⟨rfl,by have:=HL1.out;subst this;simpa[cG,List.append_assoc] using hB9,HK7.out.trans hk9⟩
     clear hB9 hk9
     go_wp2_with fail
     go_end0
     exact HF9.out
theorem bG.ofB {b:Nat} {w w2:World} (hb:b<w.heap.size) (k:Below w.heap.size w w2):bG b w w2:=(bG.refl b w).of_below (Nat.le_of_lt hb) k
theorem aLp (b:Nat) (n:Int) (s:ByteArray) (A:Option Addr) (m c:Nat) (L:List UInt8) (w:World) (hb:b<w.heap.size) (hG:Gl w) (hWR:∀W,Below w.heap.size w W→Calls prog 50 #[.pointer (some ⟨b,0,none⟩),.string (dR n)] W fun e w'=>e=.returned (.tuple #[.int .i64 (((dR n):ByteArray).size:Int),.nilIface])∧IsB b L w'∧bG b W w'):
 Calls prog 167 #[.pointer (some ⟨b,0,none⟩),.agg #[.int .i64 4,.int .i64 n,.string s,.slice A m c]] w (jO b L w):=by
 have HFO:=Hd (fun W=>cZ 4 W)
 have HBL:=Hd hb
 have HG:=Hd hG
 have HTX:Hid (∀W,Gl W→Calls prog 202 #[.int .i64 n] W (Ret (.string (dR n)) W)):=Hd (fun W hW=>nV n W hW)
 have HWR:=Hd hWR
 clear hb hG hWR
 go_enter func167,ntmps167
 go_wp2_with (first
  |(go_at_call 161;go_must (refine rC w (HFO.out _) ?_;intro wq1 hb Bq1;obtain⟨⟨kc1_0_0,kc1_0_1,kc1_0_2,kc1_0_3⟩,kl1_0,kf1_0⟩:=kb4 hb (w.heap.size) (.int .i64 4) (.int .i64 n) (.string s) (.slice A m c);clear hb)))
 go_region_with (first
  |(go_at_call 202;go_must (refine rC w (HTX.out _ (HG.out.below blw)) ?_;intro wq2 hb Bq2;obtain⟨⟨kc2_0_0,kc2_0_1,kc2_0_2,kc2_0_3⟩,kl2_0,kf2_0⟩:=kb4 hb (w.heap.size) (.int .i64 4) (.int .i64 n) (.string s) (.slice A m c);clear hb))
  |(go_at_call 50;refine(HWR.out _ blw).mono ?_;rintro e W5 ⟨rfl,hB5,hk5⟩;have HB5:=Hd hB5;have HK5:=Hd hk5;clear hB5 hk5))
 all_goals (go_wp2_with fail;go_end0;exact⟨rfl,HB5.out,(bG.ofB HBL.out blw).trans HK5.out⟩)
theorem aLs (b:Nat) (n:Int) (s:ByteArray) (A:Option Addr) (m c:Nat) (L:List UInt8) (w:World) (hb:b<w.heap.size) (hWR:∀W,Below w.heap.size w W→Calls prog 50 #[.pointer (some ⟨b,0,none⟩),.string (aY 1)] W fun e w'=>e=.returned (.tuple #[.int .i64 (((aY 1):ByteArray).size:Int),.nilIface])∧IsB b L w'∧bG b W w'):
 Calls prog 167 #[.pointer (some ⟨b,0,none⟩),.agg #[.int .i64 1,.int .i64 n,.string s,.slice A m c]] w (jO b L w):=by
 have HFO:=Hd (fun W=>cZ 1 W)
 have HBL:=Hd hb
 have HWR:=Hd hWR
 clear hb hWR
 go_enter func167,ntmps167
 go_wp2_with (first
  |(go_at_call 161;go_must (refine rC w (HFO.out _) ?_;intro wq3 hb Bq3;obtain⟨⟨kc3_0_0,kc3_0_1,kc3_0_2,kc3_0_3⟩,kl3_0,kf3_0⟩:=kb4 hb (w.heap.size) (.int .i64 1) (.int .i64 n) (.string s) (.slice A m c);clear hb))
  |(go_at_call 50;refine(HWR.out _ blw).mono ?_;rintro e W5 ⟨rfl,hB5,hk5⟩;have HB5:=Hd hB5;have HK5:=Hd hk5;clear hB5 hk5))
 go_end0
 exact⟨rfl,HB5.out,(bG.ofB HBL.out blw).trans HK5.out⟩
theorem aLr (b:Nat) (n:Int) (s:ByteArray) (A:Option Addr) (m c:Nat) (L:List UInt8) (w:World) (hb:b<w.heap.size) (hWR:∀W,Below w.heap.size w W→Calls prog 50 #[.pointer (some ⟨b,0,none⟩),.string (aY 2)] W fun e w'=>e=.returned (.tuple #[.int .i64 (((aY 2):ByteArray).size:Int),.nilIface])∧IsB b L w'∧bG b W w'):
 Calls prog 167 #[.pointer (some ⟨b,0,none⟩),.agg #[.int .i64 2,.int .i64 n,.string s,.slice A m c]] w (jO b L w):=by
 have HFO:=Hd (fun W=>cZ 2 W)
 have HBL:=Hd hb
 have HWR:=Hd hWR
 clear hb hWR
 go_enter func167,ntmps167
 go_wp2_with (first
  |(go_at_call 161;go_must (refine rC w (HFO.out _) ?_;intro wq4 hb Bq4;obtain⟨⟨kc4_0_0,kc4_0_1,kc4_0_2,kc4_0_3⟩,kl4_0,kf4_0⟩:=kb4 hb (w.heap.size) (.int .i64 2) (.int .i64 n) (.string s) (.slice A m c);clear hb))
  |(go_at_call 50;refine(HWR.out _ blw).mono ?_;rintro e W5 ⟨rfl,hB5,hk5⟩;have HB5:=Hd hB5;have HK5:=Hd hk5;clear hB5 hk5))
 go_end0
 exact⟨rfl,HB5.out,(bG.ofB HBL.out blw).trans HK5.out⟩
theorem aLq (b:Nat) (n:Int) (s:ByteArray) (A:Option Addr) (m c:Nat) (L:List UInt8) (w:World) (hb:b<w.heap.size) (hCA:∀W,Below w.heap.size w W→Calls prog 230 #[.pointer (some ⟨b,0,none⟩),.string (aY 3),.slice none 0 0,.slice (some ⟨W.heap.size,0,none⟩) 1 1] (W.alloc (.cells #[.string s] 9)) fun e w'=>e=.returned (.tuple #[])∧IsB b L w'∧bG b (W.alloc (.cells #[.string s] 9)) w'):
 Calls prog 167 #[.pointer (some ⟨b,0,none⟩),.agg #[.int .i64 3,.int .i64 n,.string s,.slice A m c]] w (jO b L w):=by
 have HFO:=Hd (fun W=>cZ 3 W)
 have HBL:=Hd hb
 have HCA:=Hd hCA
 clear hb hCA
 go_enter func167,ntmps167
 go_wp2_with (first
  |(go_at_call 161;go_must (refine rC w (HFO.out _) ?_;intro wq5 hb Bq5;obtain⟨⟨kc5_0_0,kc5_0_1,kc5_0_2,kc5_0_3⟩,kl5_0,kf5_0⟩:=kb4 hb (w.heap.size) (.int .i64 3) (.int .i64 n) (.string s) (.slice A m c);clear hb))
  |(go_at_call 230;refine(HCA.out _ blw).mono ?_;rintro e W5 ⟨rfl,hB5,hk5⟩;have HB5:=Hd hB5;have HK5:=Hd hk5;clear hB5 hk5))
 go_end0
 exact⟨rfl,HB5.out,((bG.ofB HBL.out blw).alloc (by have h:Below w.heap.size w _:=blw;exact Nat.le_trans (Nat.le_of_lt HBL.out) h.size) _).trans HK5.out⟩
theorem aLo (b:Nat) (n:Int) (s:ByteArray) (A:Option Addr) (m c:Nat) (L:List UInt8) (w:World) (hb:b<w.heap.size) (hG:Gl w) (hCA:∀W,Below w.heap.size w W→Calls prog 230 #[.pointer (some ⟨b,0,none⟩),.string (aY 5),.slice A m c,.slice (some ⟨W.heap.size,0,none⟩) 1 1] (W.alloc (.cells #[.string (dR n)] 9)) fun e w'=>e=.returned (.tuple #[])∧IsB b L w'∧bG b (W.alloc (.cells #[.string (dR n)] 9)) w'):
 Calls prog 167 #[.pointer (some ⟨b,0,none⟩),.agg #[.int .i64 5,.int .i64 n,.string s,.slice A m c]] w (jO b L w):=by
 have HFO:=Hd (fun W=>cZ 5 W)
 have HBL:=Hd hb
 have HG:=Hd hG
 have HTX:Hid (∀W,Gl W→Calls prog 202 #[.int .i64 n] W (Ret (.string (dR n)) W)):=Hd (fun W hW=>nV n W hW)
 have HCA:=Hd hCA
 clear hb hG hCA
 go_enter func167,ntmps167
 go_wp2_with (first
  |(go_at_call 161;go_must (refine rC w (HFO.out _) ?_;intro wq6 hb Bq6;obtain⟨⟨kc6_0_0,kc6_0_1,kc6_0_2,kc6_0_3⟩,kl6_0,kf6_0⟩:=kb4 hb (w.heap.size) (.int .i64 5) (.int .i64 n) (.string s) (.slice A m c);clear hb)))
 go_region_with (first
  |(go_at_call 202;go_must (refine rC w (HTX.out _ (HG.out.below blw)) ?_;intro wq7 hb Bq7;obtain⟨⟨kc7_0_0,kc7_0_1,kc7_0_2,kc7_0_3⟩,kl7_0,kf7_0⟩:=kb4 hb (w.heap.size) (.int .i64 5) (.int .i64 n) (.string s) (.slice A m c);clear hb))
  |(go_at_call 230;refine(HCA.out _ blw).mono ?_;rintro e W5 ⟨rfl,hB5,hk5⟩;have HB5:=Hd hB5;have HK5:=Hd hk5;clear hB5 hk5))
 all_goals (go_wp2_with fail;go_end0;exact⟨rfl,HB5.out,((bG.ofB HBL.out blw).alloc (by have h:Below w.heap.size w _:=blw;exact Nat.le_trans (Nat.le_of_lt HBL.out) h.size) _).trans HK5.out⟩)
theorem aLn (b:Nat) (n:Int) (s:ByteArray) (A:Option Addr) (m c:Nat) (L:List UInt8) (w:World) (hb:b<w.heap.size) (hn:-9223372036854775808≤n∧n≤9223372036854775807) (hG:Gl w) (hCA:∀W,Below w.heap.size w W→Calls prog 230 #[.pointer (some ⟨b,0,none⟩),.string (aY 6),.slice A m c,.slice (some ⟨W.heap.size,0,none⟩) 1 1] (W.alloc (.cells #[.string (bP n)] 9)) fun e w'=>e=.returned (.tuple #[])∧IsB b L w'∧bG b (W.alloc (.cells #[.string (bP n)] 9)) w'):
 Calls prog 167 #[.pointer (some ⟨b,0,none⟩),.agg #[.int .i64 6,.int .i64 n,.string s,.slice A m c]] w (jO b L w):=by
 have HFO:=Hd (fun W=>cZ 6 W)
 have HBL:=Hd hb
 have HG:=Hd hG
 have HTX:Hid (∀W,Gl W→Calls prog 196 #[.int .i64 n] W (Ret (.string (bP n)) W)):=Hd (fun W hW=>gD n hn W hW)
 have HCA:=Hd hCA
 clear hb hG hCA hn
 go_enter func167,ntmps167
 go_wp2_with (first
  |(go_at_call 161;go_must (refine rC w (HFO.out _) ?_;intro wq8 hb Bq8;obtain⟨⟨kc8_0_0,kc8_0_1,kc8_0_2,kc8_0_3⟩,kl8_0,kf8_0⟩:=kb4 hb (w.heap.size) (.int .i64 6) (.int .i64 n) (.string s) (.slice A m c);clear hb)))
 go_region_with (first
  |(go_at_call 196;go_must (refine rC w (HTX.out _ (HG.out.below blw)) ?_;intro wq9 hb Bq9;obtain⟨⟨kc9_0_0,kc9_0_1,kc9_0_2,kc9_0_3⟩,kl9_0,kf9_0⟩:=kb4 hb (w.heap.size) (.int .i64 6) (.int .i64 n) (.string s) (.slice A m c);clear hb))
  |(go_at_call 230;refine(HCA.out _ blw).mono ?_;rintro e W5 ⟨rfl,hB5,hk5⟩;have HB5:=Hd hB5;have HK5:=Hd hk5;clear hB5 hk5))
 all_goals (go_wp2_with fail;go_end0;exact⟨rfl,HB5.out,((bG.ofB HBL.out blw).alloc (by have h:Below w.heap.size w _:=blw;exact Nat.le_trans (Nat.le_of_lt HBL.out) h.size) _).trans HK5.out⟩)
theorem aGy (b:Nat) (n:Int) (s:ByteArray) (A:Option Addr) (m c:Nat) (L:List UInt8) (w:World) (hb:b<w.heap.size) (hn:-9223372036854775808≤n∧n≤9223372036854775807) (hG:Gl w) (hCA:∀W,Below w.heap.size w W→Calls prog 230 #[.pointer (some ⟨b,0,none⟩),.string (aY 11),.slice A m c,.slice (some ⟨W.heap.size,0,none⟩) 1 1] (W.alloc (.cells #[.string (bP n)] 9)) fun e w'=>e=.returned (.tuple #[])∧IsB b L w'∧bG b (W.alloc (.cells #[.string (bP n)] 9)) w'):
 Calls prog 167 #[.pointer (some ⟨b,0,none⟩),.agg #[.int .i64 11,.int .i64 n,.string s,.slice A m c]] w (jO b L w):=by
 have HFO:=Hd (fun W=>cZ 11 W)
 have HBL:=Hd hb
 have HG:=Hd hG
 have HTX:Hid (∀W,Gl W→Calls prog 196 #[.int .i64 n] W (Ret (.string (bP n)) W)):=Hd (fun W hW=>gD n hn W hW)
 have HCA:=Hd hCA
 clear hb hG hCA hn
 go_enter func167,ntmps167
 go_wp2_with (first
  |(go_at_call 161;go_must (refine rC w (HFO.out _) ?_;intro wq10 hb Bq10;obtain⟨⟨kc10_0_0,kc10_0_1,kc10_0_2,kc10_0_3⟩,kl10_0,kf10_0⟩:=kb4 hb (w.heap.size) (.int .i64 11) (.int .i64 n) (.string s) (.slice A m c);clear hb)))
 go_region_with (first
  |(go_at_call 196;go_must (refine rC w (HTX.out _ (HG.out.below blw)) ?_;intro wq11 hb Bq11;obtain⟨⟨kc11_0_0,kc11_0_1,kc11_0_2,kc11_0_3⟩,kl11_0,kf11_0⟩:=kb4 hb (w.heap.size) (.int .i64 11) (.int .i64 n) (.string s) (.slice A m c);clear hb))
  |(go_at_call 230;refine(HCA.out _ blw).mono ?_;rintro e W5 ⟨rfl,hB5,hk5⟩;have HB5:=Hd hB5;have HK5:=Hd hk5;clear hB5 hk5))
 all_goals (go_wp2_with fail;go_end0;exact⟨rfl,HB5.out,((bG.ofB HBL.out blw).alloc (by have h:Below w.heap.size w _:=blw;exact Nat.le_trans (Nat.le_of_lt HBL.out) h.size) _).trans HK5.out⟩)
theorem aLm (b:Nat) (k n:Int) (s:ByteArray) (A:Option Addr) (m c:Nat) (L:List UInt8) (w:World) (hb:b<w.heap.size) (hk:k=7∨k=8∨k=9∨k=10∨k=12) (hCA:∀W,Below w.heap.size w W→Calls prog 230 #[.pointer (some ⟨b,0,none⟩),.string (aY k),.slice A m c,.slice none 0 0] W fun e w'=>e=.returned (.tuple #[])∧IsB b L w'∧bG b W w'):
 Calls prog 167 #[.pointer (some ⟨b,0,none⟩),.agg #[.int .i64 k,.int .i64 n,.string s,.slice A m c]] w (jO b L w):=by
 have HFO:=Hd (fun W=>cZ k W)
 have HBL:=Hd hb
 have zk4:(k==4)=false:=bN (by rintro rfl;simp at hk)
 have zk1:(k==1)=false:=bN (by rintro rfl;simp at hk)
 have zk2:(k==2)=false:=bN (by rintro rfl;simp at hk)
 have zk3:(k==3)=false:=bN (by rintro rfl;simp at hk)
 have zk5:(k==5)=false:=bN (by rintro rfl;simp at hk)
 have zk6:(k==6)=false:=bN (by rintro rfl;simp at hk)
 have zk11:(k==11)=false:=bN (by rintro rfl;simp at hk)
 have HCA:=Hd hCA
 clear hb hCA hk
 go_enter func167,ntmps167
 go_wp2_with (first
  |(go_at_call 161;go_must (refine rC w (HFO.out _) ?_;intro wq12 hb Bq12;obtain⟨⟨kc12_0_0,kc12_0_1,kc12_0_2,kc12_0_3⟩,kl12_0,kf12_0⟩:=kb4 hb (w.heap.size) (.int .i64 k) (.int .i64 n) (.string s) (.slice A m c);clear hb))
  |(go_at_call 230;refine(HCA.out _ blw).mono ?_;rintro e W5 ⟨rfl,hB5,hk5⟩;have HB5:=Hd hB5;have HK5:=Hd hk5;clear hB5 hk5))
 go_end0
 exact⟨rfl,HB5.out,(bG.ofB HBL.out blw).trans HK5.out⟩
end Go.Proofs.YtlibhkkckgkkkaaGreatDoor.Tf
namespace Go.Proofs.YtlibhkkckgkkkaaGreatDoor.Tf
open Go.RowKit Go.Proofs.YtlibhkkckgkkkaaGreatDoor.Mem Go.Proofs.YtlibhkkckgkkkaaGreatDoor.Boo
theorem qO (n:Int) (s:ByteArray) (xs:List Ex):aM (.node 4 n s xs)=(dR n).data.toList:=by simp[aM,eR,cP]
theorem nZ (k n:Int) (s:ByteArray) (xs:List Ex) (h:k=1∨k=2):aM (.node k n s xs)=(aY k).data.toList:=by
 have h4:¬k=4:=by omega
 simp[aM,eR,cP,h,h4]
def moF (k n:Int) (s:ByteArray):Option ByteArray:=if k=3 then some s else if k=5 then some (dR n) else if k=6 then some (bP n) else if k=11 then some (bP n) else none
theorem rL (k n:Int) (s:ByteArray) (xs:List Ex) (h1:k≠1) (h2:k≠2) (h4:k≠4) (hm:(k=3∨k=11→xs.length=0)∧(k=5∨k=6→xs.length≠0)):aM (.node k n s xs)=(aY k).data.toList++([40]++(cM xs++(cG xs.length (moF k n s)++[41]))):=by
 have e:cP (kF k n s)=cG xs.length (moF k n s):=by
  unfold kF moF
  by_cases k3:k=3
  ·simp[k3,cG,cP,hm.1 (.inl k3)]
  by_cases k5:k=5
  ·simp[k5,cG,cP,hm.2 (.inl k5)]
  by_cases k6:k=6
  ·simp[k6,cG,cP,hm.2 (.inr k6)]
  by_cases k11:k=11
  ·simp[k11,cG,cP,hm.1 (.inr k11)]
  simp[k3,k5,k6,k11,cG,cP]
 unfold aM
 rw[eR,if_neg h4,if_neg (by simp[h1,h2]),cP,cP,gZ,gZ,e]
 simp[cM,cP]
theorem aR8 {w0:World} {word:ByteArray} {A:Option Addr} {c m:Nat} {vs:List EV} {xs:List Ex} (hm:xs.length=m) (hv:vs.length=m) (hat:dX.At w0 A c vs) (hpr:∀(i:Nat) (x:Ex) (u:EV),xs[i]?=some x→vs[i]?=some u→PrC w0 x u)
 {l:List UInt8} {w:World} (hb:Below w0.heap.size w0 w) (hB:IsB w0.heap.size l w) (L:List UInt8) (hL:L=l++(word.data.toList++([40]++(cM xs++(cG m none++[41]))))) (hlen:L.length≤100000) (hm9:m≤9):
 ∀W,Below w.heap.size w W→Calls Tryz.prog 230 #[.pointer (some ⟨w0.heap.size,0,none⟩),.string word,.slice A m c,.slice none 0 0] W fun e w'=>e=.returned (.tuple #[])∧IsB w0.heap.size L w'∧bG w0.heap.size W w':=fun W hW=>by
 subst hL
 have hlb:=lX hB
 simp only[lA,List.length_cons,List.length_nil,bI] at hlen
 exact aFb w0 word A c m vs xs hm hv hat hpr (.slice none 0 0) l W (bF hb (by have:=hb.size;omega) hW) (fN hB hW) rfl (by omega) hm9
theorem aCe {w0:World} {word:ByteArray} {A:Option Addr} {c m:Nat} {vs:List EV} {xs:List Ex} (hm:xs.length=m) (hv:vs.length=m) (hat:dX.At w0 A c vs) (hpr:∀(i:Nat) (x:Ex) (u:EV),xs[i]?=some x→vs[i]?=some u→PrC w0 x u)
 {l:List UInt8} {w:World} (hb:Below w0.heap.size w0 w) (hB:IsB w0.heap.size l w) (t:ByteArray) (L:List UInt8) (hL:L=l++(word.data.toList++([40]++(cM xs++(cG m (some t)++[41]))))) (hlen:L.length≤100000) (hm9:m≤9):
 ∀W,Below w.heap.size w W→Calls Tryz.prog 230 #[.pointer (some ⟨w0.heap.size,0,none⟩),.string word,.slice A m c,.slice (some ⟨W.heap.size,0,none⟩) 1 1] (W.alloc (.cells #[.string t] 9)) fun e w'=>e=.returned (.tuple #[])∧IsB w0.heap.size L w'∧bG w0.heap.size (W.alloc (.cells #[.string t] 9)) w':=fun W hW=>by
 subst hL
 have hlb:=lX hB
 have hs:=hW.size
 simp only[lA,List.length_cons,List.length_nil,bI] at hlen
 exact aFa w0 word A c m vs xs hm hv hat hpr t _ l _ (bF hb (by have:=hb.size;omega) (aB hW _)) (fN hB (aB hW _)) ⟨_,rfl,aN W _,by omega⟩ (by omega) hm9
theorem aDl:∀(d:Nat) (c:Bool) (x:Ex),Gen d c x→∀(w0:World) (S:Nat→Prop) (u:EV),Gl w0→bB S w0 x u→PrC w0 x u:=by
 intro d
 induction d with
 |zero=>intro c x h;cases h
 |succ d ih=>
  intro cnd x h w0 S u G0 hat0 l w hb hB hlen
  obtain⟨k,n,s,xs⟩:=x
  obtain⟨A,c,vs,rfl,hv,hat,hx⟩:=hat0.parts
  have hnode:=iU h
  have hpr:∀(i:Nat) (x:Ex) (u:EV),xs[i]?=some x→vs[i]?=some u→PrC w0 x u:=fun i x u h1 h2=>ih _ x (hnode.sub i x h1) w0 S u G0 (hx i x u h1 h2)
  have hlb:=lX hB
  have hG:Gl w:=G0.below hb
  have hargs:=hnode.args
  unfold EV.v
  by_cases h4:k=4
  ·subst h4
   rw[qO] at hlen ⊢
   refine aLp _ n s A _ c _ w hlb hG (fun W hW=>?_)
   rw[lA,bI] at hlen
   exact qH _ l (dR n) W (fN hB hW) (by omega) (by omega)
  by_cases h12:k=1∨k=2
  ·rw[nZ k n s xs h12] at hlen ⊢
   rw[lA,bI] at hlen
   rcases h12 with rfl|rfl
   ·exact aLs _ n s A _ c _ w hlb (fun W hW=>qH _ l (aY 1) W (fN hB hW) (by omega) (by omega))
   ·exact aLr _ n s A _ c _ w hlb (fun W hW=>qH _ l (aY 2) W (fN hB hW) (by omega) (by omega))
  have hk1:k≠1:=fun e=>h12 (.inl e)
  have hk2:k≠2:=fun e=>h12 (.inr e)
  obtain⟨q,hq,hq3,_⟩:=kM k
  have hm9:xs.length≤9:=by omega
  have hcs:(k=3∨k=11→xs.length=0)∧(k=5∨k=6→xs.length≠0):=by
   refine⟨fun e=>?_,fun e=>?_⟩
   ·rcases e with rfl|rfl
    ·have:cH 3=0:=rfl
     omega
    ·have:cH 11=0:=rfl
     omega
   ·rcases e with rfl|rfl
    ·have:cH 5=1:=rfl
     omega
    ·have:cH 6=1:=rfl
     omega
  rw[rL k n s xs hk1 hk2 h4 hcs] at hlen ⊢
  have hn:-9223372036854775808≤n∧n≤9223372036854775807:=by
   have h1:=hnode.lo
   have h2:=hnode.hi
   have h3:aO k≤1000000000000:=by
    unfold aO
    by_cases hh:k<1∨13≤k
    ·rw[if_pos hh];omega
    ·rw[if_neg hh]
     obtain⟨z,rfl⟩:=Int.eq_ofNat_of_zero_le (by omega:0≤k)
     have H:∀m:Fin 13,aBv.getD m.val 0≤1000000000000:=by decide
     exact H ⟨z,by omega⟩
   omega
  by_cases h3:k=3
  ·subst h3
   have hnil:xs=[]:=List.eq_nil_of_length_eq_zero (hcs.1 (.inl rfl))
   subst hnil
   obtain rfl:vs=[]:=List.eq_nil_of_length_eq_zero hv
   exact aLq _ n s A _ c _ w hlb (aCe (A:=none) (c:=0) (vs:=[]) rfl rfl En.At.none_ hpr hb hB s _ rfl hlen hm9)
  by_cases h5:k=5
  ·subst h5
   exact aLo _ n s A _ c _ w hlb hG (aCe rfl hv hat hpr hb hB (dR n) _ rfl hlen hm9)
  by_cases h6:k=6
  ·subst h6
   exact aLn _ n s A _ c _ w hlb hn hG (aCe rfl hv hat hpr hb hB (bP n) _ rfl hlen hm9)
  by_cases h11:k=11
  ·subst h11
   exact aGy _ n s A _ c _ w hlb hn hG (aCe rfl hv hat hpr hb hB (bP n) _ rfl hlen hm9)
  have hmo:moF k n s=none:=by simp[moF,h3,h5,h6,h11]
  rw[hmo] at hlen ⊢
  have hok:=hnode.ok
  refine aLm _ k n s A _ c _ w hlb ?_ (aR8 rfl hv hat hpr hb hB _ rfl hlen hm9)
  unfold qD at hok
  simp at hok
  omega
end Go.Proofs.YtlibhkkckgkkkaaGreatDoor.Tf
