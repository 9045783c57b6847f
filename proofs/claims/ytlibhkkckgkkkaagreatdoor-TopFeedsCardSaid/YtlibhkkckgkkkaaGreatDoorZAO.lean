/- Part of the proof of TopFeeds: Open. -/
import Derived.Test.YtlibhkkckgkkkaaGreatDoorZAE
import Derived.Lib.SmallJoins
namespace Go.Proofs.YtlibhkkckgkkkaaGreatDoor.Mem
open Go.ChangeShapes Go.WideShapes Go.RowKit
section
variable {H:Type} {enc:TypeId×Value→H} {P:Program} {w:World} {base:Nat} {spare:Nat→Bool} {held:Bool}
theorem aBs {α:Type} (d:En α) (good:α→Prop) {t e:TypeId} (ht:P.underlying t=some (.slice e)) (hsz:P.cellsOf e=d.sz)
 (hel:∀n cs y,DataW.trod enc P w base spare held n e cs=some y→∃x,cs=d.enc x∧good x)
 {r:Reach} {b0:Nat} {v:Value} {D:DataW H} {p:List MemPlace} (hv:Value.okWide P w r b0 t v) (h:DataW.Trod enc P w base spare held t v D p):
 ∃A c xs,v=.slice A (List.length xs) c∧d.At w A c xs∧∀x∈xs,good x:=by
 obtain⟨A,len,cap,rfl⟩:=okWide_slice ht hv
 obtain⟨fuel,hf⟩:=h
 rcases Go.Deep.open_slice ht hf with⟨hcs,_⟩|⟨a,len',cap',m,n,Dd,Pl,hcs,_,hl,hm,hmm,hx9,hi⟩
 ·simp[Value.cells] at hcs
  obtain⟨rfl,rfl,rfl⟩:=hcs
  exact⟨none,0,[],rfl,En.At.none_,fun x hx=>absurd hx (List.not_mem_nil)⟩
 ·simp[Value.cells] at hcs
  obtain⟨rfl,rfl,rfl⟩:=hcs
  have hlm:len≤m:=by rw[hmm];split <;> omega
  have h1:∀i,i<len→∃x,w.cells? base (a.add (i * d.sz)) d.sz=some (d.enc x)∧good x:=fun i hi'=>by
   obtain⟨cs',hc,ht'⟩:=hi i (by omega)
   obtain⟨x,rfl,hg⟩:=hel _ _ _ ht'
   exact⟨x,by rw[←hsz];exact hc,hg⟩
  have h2:∃xs:List α,xs.length=len∧∀i x,xs[i]?=some x→w.cells? base (a.add (i * d.sz)) d.sz=some (d.enc x)∧good x:=by
   clear hi hf hlm hl hmm hv hx9
   induction len with
   |zero=>exact⟨[],rfl,fun i x hx=>by simp at hx⟩
   |succ k ih=>
    obtain⟨xs,hxl,hxs⟩:=ih (fun i hi'=>h1 i (by omega))
    obtain⟨x,hx,hg⟩:=h1 k (by omega)
    refine⟨xs++[x],by simp[hxl],fun i y hy=>?_⟩
    by_cases hik:i<k
    ·rw[List.getElem?_append_left (by omega)] at hy
     exact hxs i y hy
    ·have hlt:i<k+1:=by have:=(List.getElem?_eq_some_iff.1 hy).1;simp[hxl] at this;omega
     have:i=k:=by omega
     subst this
     rw[List.getElem?_append_right (by omega),hxl] at hy
     simp at hy
     subst hy
     exact⟨hx,hg⟩
  obtain⟨xs,hxl,hxs⟩:=h2
  subst hxl
  refine⟨some a,cap,xs,rfl,⟨hl,by unfold maxLen at hm;omega,(fun e=>by cases e),fun h0=>?_⟩,fun x hx=>?_⟩
  ·have hx0:=List.getElem?_eq_getElem h0
   obtain⟨_,_,hat⟩:=World.cells?_some (hxs 0 _ hx0).1
   have hp:=d.pos
   have hc0:=hat 0 hp
   rw[List.getElem?_eq_getElem (by rw[d.len];exact hp)] at hc0
   have he0:(a.add (0 * d.sz)).add 0=a:=by simp[Addr.add]
   rw[he0] at hc0
   have hsp:=World.cell?_spot hc0
   have hbl:=World.block_lt_of_cell? w _ hc0
   obtain⟨b,off,sp⟩:=a
   have hsp':sp=none:=hsp
   subst hsp'
   refine⟨b,off,rfl,hbl,fun i hi'=>?_⟩
   obtain⟨k,j,rfl,hj⟩:=d.split i
   have hk:k<xs.length:=by
    rcases Nat.lt_or_ge k xs.length with h|h
    ·exact h
    ·have:=Nat.mul_le_mul_right d.sz h;omega
   have hxk:=List.getElem?_eq_getElem hk
   obtain⟨_,_,hat⟩:=World.cells?_some (hxs k _ hxk).1
   have hcj:=hat j hj
   rw[Addr.add_lit,Addr.add_lit] at hcj
   rw[d.cs_get xs k _ hxk j hj,←hcj,Nat.add_assoc]
  ·obtain⟨i,hi',rfl⟩:=List.mem_iff_getElem.1 hx
   exact(hxs i _ (List.getElem?_eq_getElem hi')).2
theorem aI5 {m:Nat} {t e:TypeId} (ht:P.underlying t=some (.array m e)) (hC:P.cellsOf t=m) {k:IntKind} (he:P.underlying e=some (.int k)) (hc:P.cellsOf e=1)
 {n:Nat} {cs:List Value} {y:DataW H×List MemPlace} (h:DataW.trod enc P w base spare held n t cs=some y):
 cs.length=m∧∀(i:Nat) (v:Value),cs[i]?=some v→∃a:Int,v=Value.int k a∧(Lit.int k a).wf=true:=by
 obtain⟨xs,q,_,_,hl,hlen,hi⟩:=DataW.trod_array ht h
 rw[hC] at hl
 refine⟨hl,fun i v hv=>?_⟩
 have him:i<m:=by rw[←hl];exact(List.getElem?_eq_some_iff.1 hv).1
 have h1:=hi i him
 rw[hc,Nat.mul_one,List.getElem?_eq_getElem (by omega)] at h1
 obtain⟨a,ea,_,wa⟩:=DataW.trod_int he h1
 refine⟨a,?_,wa⟩
 have h2:(List.take 1 (List.drop i cs))[0]?=some v:=by
  rw[List.getElem?_take,if_pos (by omega),List.getElem?_drop,Nat.add_zero,hv]
 rw[ea] at h2
 simpa using h2.symm
end
end Go.Proofs.YtlibhkkckgkkkaaGreatDoor.Mem
