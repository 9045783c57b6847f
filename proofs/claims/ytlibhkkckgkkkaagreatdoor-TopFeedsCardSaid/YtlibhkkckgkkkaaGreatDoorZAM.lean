/- Part of the proof of TopFeeds: MapA. -/
import Derived.Test.YtlibhkkckgkkkaaGreatDoorZAE
import Derived.Lib.Hide
import Derived.OrdersHeld
namespace Go.Proofs.YtlibhkkckgkkkaaGreatDoor.Tf
open Go.RowKit Go.Proofs.YtlibhkkckgkkkaaGreatDoor.Mem
section
variable {P:Program} {w:World}
theorem lC {k:Int}:∀(l:List MapEntry),(∀e∈l,∃j,e.key=.int .i64 j∧j≠k)→∀i,Instr.findNow (.int .i64) (.int .i64 k) l i=some none
 |[],_,_=>rfl
 |e::l,h,i=>by
  obtain⟨j,hj,hne⟩:=h e (List.mem_cons_self ..)
  have hk:(k==j)=false:=by rw[beq_eq_false_iff_ne];exact fun e=>hne e.symm
  simp only[Instr.findNow,Instr.sameNow,hj,if_true,hk]
  exact lC l (fun x hx=>h x (List.mem_cons_of_mem _ hx)) (i+1)
theorem oK {k:Int} {v:Value}:∀(l:List MapEntry),(∀e∈l,∃j,e.key=.int .i64 j∧(j=k→e.val=v))→(∃e∈l,e.key=.int .i64 k)→∀i,∃n,Instr.findNow (.int .i64) (.int .i64 k) l i=some (some (n,v))
 |[],_,h,_=>by obtain⟨e,he,_⟩:=h;cases he
 |e::l,h,hx,i=>by
  obtain⟨j,hj,hv⟩:=h e (List.mem_cons_self ..)
  by_cases hjk:j=k
  ·have hk:(k==j)=true:=by rw[beq_iff_eq];exact hjk.symm
   exact⟨i,by simp only[Instr.findNow,Instr.sameNow,hj,if_true,hk,hv hjk]⟩
  ·have hk:(k==j)=false:=by rw[beq_eq_false_iff_ne];exact fun e=>hjk e.symm
   obtain⟨x,hx1,hx2⟩:=hx
   have hx':∃e∈l,e.key=.int .i64 k:=by
    rcases List.mem_cons.1 hx1 with rfl|hm
    ·rw[hj] at hx2;injection hx2 with _ h2;exact absurd h2 hjk
    ·exact⟨x,hm,hx2⟩
   obtain⟨n,hn⟩:=oK l (fun x hx=>h x (List.mem_cons_of_mem _ hx)) hx' (i+1)
   exact⟨n,by simp only[Instr.findNow,Instr.sameNow,hj,if_true,hk];exact hn⟩
theorem hZ {kt:TypeId} (hd:P.underlying kt=some (.int .i64)) (e:Bool) (n:Nat) (k:Int):(Instr.checkKey e (n+1) kt (.int .i64 k)).run P w=.ok () w:=by
 unfold Instr.checkKey
 simp only[Sem.run_bind,run_underlying hd,Result.andThen,Sem.run_pure]
theorem jH {t kt et:TypeId} (ht:P.underlying t=some (.map kt et)) (hk:P.underlying kt=some (.int .i64)) {r clk:Nat} {es:Array MapEntry} (hb:w.heap[r]?=some (.map es clk)) (k:Int) (v:Value)
 (hn:∀e∈es.toList,∃j,e.key=.int .i64 j∧j≠k):
 (Instr.mapUpdate t (.map (some r)) (.int .i64 k) v).run P w=.ok () {w with heap:=w.heap.setIfInBounds r (.map (es.push {key:=.int .i64 k,val:=v,born:=clk}) (clk+1))}:=by
 have hf:=MapKept.run_findKey (w:=w) hk (lC es.toList hn 0)
 simp only[Instr.mapUpdate,Sem.run_bind,run_underlying ht,Result.andThen,MapKept.run_getObj_map hb,hZ hk,hf,MapKept.run_setObj_map _ hb]
theorem nY {t kt et:TypeId} (ht:P.underlying t=some (.map kt et)) (hk:P.underlying kt=some (.int .i64)) {r clk:Nat} {es:Array MapEntry} (hb:w.heap[r]?=some (.map es clk)) (k:Int) (v:Value)
 (hn:∀e∈es.toList,∃j,e.key=.int .i64 j∧(j=k→e.val=v)) (hx:∃e∈es.toList,e.key=.int .i64 k) (c:Bool):
 (Instr.lookup t (.map (some r)) (.int .i64 k) c).run P w=.ok (if c then .tuple #[v,.bool true] else v) w:=by
 obtain⟨n,hn⟩:=oK es.toList hn hx 0
 have hf:=MapKept.run_findKey (w:=w) hk hn
 simp only[Instr.lookup,Sem.run_bind,run_underlying ht,Result.andThen,MapKept.run_getObj_map hb,hZ hk,hf,Sem.run_pure]
end
section
variable {P:Program} {ops:Array Oper} {Q:Exit→Act→World→Prop}
def oC (ops:Array Oper) (i:Nat):List Nat:=((ops[i]?).map fun o=>o.after.toList.filterMap fun e=>if Region.binds .any e then some e.on else none).getD []
theorem wE {listed:Array Bool} {i:Nat} (h:i∈Region.ready .any ops listed):i<ops.size∧listed.getD i true=false∧∀j∈oC ops i,listed.getD j false=true:=by
 unfold Region.ready at h
 rw[List.mem_filter,List.mem_range,Bool.and_eq_true,Bool.not_eq_true'] at h
 obtain⟨h1,h2,h3⟩:=h
 refine⟨h1,h2,fun j hj=>?_⟩
 unfold oC at hj
 have ho:=Array.getElem?_eq_getElem h1
 rw[ho] at h3 hj
 simp only[Option.map_some,Option.getD_some] at h3 hj
 obtain⟨e,he,hej⟩:=List.mem_filterMap.1 hj
 have:=(Array.all_eq_true'.1 h3) e (by simpa using he)
 split at hej
 ·rename_i hb
  injection hej with hej
  subst hej
  rw[hb] at this
  simpa using this
 ·cases hej
theorem aCp (R:Nat→Array Bool→Act→World→Prop)
 (h0:∀listed a w,R 0 listed a w→wpAny P .any ops Q 0 listed a w)
 (hs:∀fuel listed a w,R (fuel+1) listed a w→wpAny P .any ops Q (fuel+1) listed a w∨
   (Region.ready .any ops listed≠[]∧∀i∈Region.ready .any ops listed,wpOp P ops Q i (fun a' w'=>R fuel (listed.setIfInBounds i true) a' w') a w)):
 ∀fuel listed a w,R fuel listed a w→wpAny P .any ops Q fuel listed a w:=by
 intro fuel
 induction fuel with
 |zero=>exact h0
 |succ fuel ih=>
  intro listed a w h
  rcases hs fuel listed a w h with h|⟨hne,h⟩
  ·exact h
  ·exact⟨fun e=>absurd e hne,fun i hi=>wpOp_mono (fun a w=>ih _ a w) (h i hi)⟩
end
end Go.Proofs.YtlibhkkckgkkkaaGreatDoor.Tf
