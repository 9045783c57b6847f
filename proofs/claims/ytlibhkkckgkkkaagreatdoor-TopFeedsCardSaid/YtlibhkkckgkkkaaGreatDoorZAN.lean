/- Part of the proof of TopFeeds: DoA DoB DoC. -/
import Derived.Test.YtlibhkkckgkkkaaGreatDoorZAF
import Derived.Test.YtlibhkkckgkkkaaGreatDoorZAM
set_option maxHeartbeats 4000000
set_option maxRecDepth 100000
namespace Go.Proofs.YtlibhkkckgkkkaaGreatDoor.Tf
open Go.RowKit Go.Proofs.YtlibhkkckgkkkaaGreatDoor.Mem Go.Proofs.YtlibhkkckgkkkaaGreatDoor.Boo
def fX:Code→Nat→Option (Array Oper)
 |.region id ops _,n=>if id=n then some ops else none
 |.seq a b,n=>(fX a n).orElse fun _=>fX b n
 |.cond _ a b,n=>(fX a n).orElse fun _=>fX b n
 |.block _ b,n=>fX b n
 |.loop b,n=>fX b n
 |.scope b,n=>fX b n
 |.rangeFunc _ _ a b,n=>(fX a n).orElse fun _=>fX b n
 |_,_=>none
noncomputable def lP:Array Oper:=(Tryz.f9.body.bind (fX · 3)).getD #[]
noncomputable def op9 (i:Nat):Oper:=lP.getD i default
theorem aBo:lP.size=40:=by kernel_rfl
theorem xB {i:Nat} (h:i<40):lP[i]?=some (op9 i):=by
 unfold op9
 rw[Array.getD_eq_getD_getElem?,Array.getElem?_eq_getElem (by rw[aBo];exact h)]
 rfl
theorem aM2:(List.range 40).all (fun i=>(op9 i).guard.isNone)=true:=by kernel_rfl
theorem pJ {i:Nat} (h:i<40):(op9 i).guard=none:=by
 have:=List.all_eq_true.1 aM2 i (List.mem_range.2 h)
 simpa using this
def d9:List (Option Nat):=[some 11,some 12,some 13,none,some 14,some 15,none,some 16,some 17,none,some 18,some 19,none,some 20,some 21,none,some 22,some 23,none,some 24,some 25,none,some 26,some 27,none,some 28,some 29,none,some 30,some 31,none,some 32,some 33,some 34,some 35,some 10,some 36,some 37,some 5,some 6]
def dOf (i:Nat):Option Nat:=d9.getD i none
theorem aRv:(List.range 40).map (fun i=>(op9 i).dst)=d9:=by kernel_rfl
theorem dst9 {i:Nat} (h:i<40):(op9 i).dst=dOf i:=by
 have:=congrArg (fun l=>l[i]?) aRv
 simp only[List.getElem?_map,List.getElem?_range h,Option.map_some] at this
 unfold dOf
 rw[List.getD_eq_getElem?_getD,←this]
 rfl
theorem vD:∀i,i<40→∀j,j<40→i≠j→dOf i=dOf j→dOf i=none:=by decide +kernel
theorem aCa:∀i,i<40→∀d,dOf i=some d→d<44∧d≠0∧d≠3∧d≠4:=by
 intro i hi d hd
 have h:∀i,i<40→((dOf i).all fun d=>decide (d<44∧d≠0∧d≠3∧d≠4))=true:=by decide +kernel
 have:=h i hi
 rw[hd] at this
 simpa using this
def fP:Nat→Option Int
 |3=>some 1
 |6=>some 2
 |9=>some 3
 |12=>some 4
 |15=>some 5
 |18=>some 6
 |21=>some 7
 |24=>some 8
 |27=>some 9
 |30=>some 10
 |_=>none
def aPu:Nat→Bool
 |1=>true
 |4=>true
 |7=>true
 |10=>true
 |13=>true
 |16=>true
 |19=>true
 |22=>true
 |25=>true
 |28=>true
 |_=>false
def fnOf:Nat→Option Nat
 |2=>some 24
 |5=>some 25
 |8=>some 26
 |11=>some 27
 |14=>some 28
 |17=>some 29
 |20=>some 30
 |29=>some 34
 |_=>none
def dY (b:Nat):Value:=.pointer (some ⟨b,0,none⟩)
def pI (f mb:Nat):Value:=.func (.func f) #[dY mb] #[]
def exp9 (mb b1:Nat) (κ:Int) (fv:Value) (i:Nat):Option Value:=
 if aPu i then some (dY mb) else match fnOf i with
 |some f=>some (pI f mb)
 |none=>if i=32 then some (dY b1) else if i=33 then some (.int .i64 κ) else if i=34∨i=35 then some (.tuple #[fv,.bool true]) else if i=36∨i=38 then some fv else if i=37∨i=39 then some (.bool true) else none
structure uG (κ:Int) (fv:Value) (listed:Array Bool) (es:Array MapEntry):Prop where
 keys:∀e∈es.toList,∃i k,fP i=some k∧e.key=.int .i64 k∧listed.getD i false=true∧(k=κ→e.val=fv)
 has:∀i,fP i=some κ→listed.getD i false=true→∃e∈es.toList,e.key=.int .i64 κ
structure R9 (mb b1:Nat) (κ:Int) (fv:Value) (a0:Act) (w0:World) (fuel:Nat) (listed:Array Bool) (a:Act) (w:World):Prop where
 size:listed.size=40
 left:listed.toList.count false=fuel
 tmps:a.tmps.size=44
 defers:a.defers=[]
 same:∀d,(∀i,i<40→dOf i≠some d)→a.eval (.tmp d)=a0.eval (.tmp d)
 val:∀i d x,i<40→dOf i=some d→exp9 mb b1 κ fv i=some x→listed.getD i false=true→a.eval (.tmp d)=x
 map:listed.getD 0 false=true→∃r clk es,a.eval (.tmp 11)=.map (some r)∧w0.heap.size≤r∧w.heap[r]?=some (.map es clk)∧uG κ fv listed es
 move:listed.getD 31 false=true→a.eval (.tmp 32)=a.eval (.tmp 11)
 first:∀j∈[3,6,9,12,15,18,21,24,27,30,31],listed.getD j false=true→listed.getD 0 false=true
 all31:listed.getD 31 false=true→∀j∈[3,6,9,12,15,18,21,24,27,30],listed.getD j false=true
 below:Below w0.heap.size w0 w
theorem dQ (l:Array Bool) (i j:Nat) (hi:i<l.size):(l.setIfInBounds i true).getD j false=if i=j then true else l.getD j false:=by
 rw[Array.getD_eq_getD_getElem?,Array.getElem?_setIfInBounds]
 split
 ·first|rfl|(rw[if_pos hi];rfl)
 ·rw[Array.getD_eq_getD_getElem?]
theorem tY {l:Array Bool} {i n:Nat} (hi:i<l.size) (hf:l.getD i true=false) (h:l.toList.count false=n+1):(l.setIfInBounds i true).toList.count false=n:=by
 rw[Array.toList_setIfInBounds]
 have hi':i<l.toList.length:=by simpa using hi
 have hv:l.toList[i]=false:=by
  rw[Array.getD_eq_getD_getElem?,Array.getElem?_eq_getElem hi] at hf
  simpa using hf
 rw[List.count_set hi',hv,h]
 simp
theorem gP {a:Act} {d d':Nat} {v:Value} (h:d≠d'):(a.put (some d) v).eval (.tmp d')=a.eval (.tmp d'):=by
 simp only[Act.put,Act.eval,Array.getD_eq_getD_getElem?,Array.getElem?_setIfInBounds,if_neg h]
theorem lY {a:Act} {d:Nat} {v:Value} (h:d<a.tmps.size):(a.put (some d) v).eval (.tmp d)=v:=by
 simp only[Act.put,Act.eval,Array.getD_eq_getD_getElem?,Array.getElem?_setIfInBounds,if_true,if_pos h,Option.getD_some]
section
variable {mb b1:Nat} {κ:Int} {fv:Value} {a0:Act} {w0:World} {fuel:Nat} {listed:Array Bool} {a:Act} {w w':World}
theorem uG.more {es:Array MapEntry} (h:uG κ fv listed es) {i:Nat} (hi:i<listed.size) (hk:fP i≠some κ):uG κ fv (listed.setIfInBounds i true) es:=by
 refine⟨fun e he=>?_,fun j hj hl=>?_⟩
 ·obtain⟨j,k,h1,h2,h3,h4⟩:=h.keys e he
  exact⟨j,k,h1,h2,by rw[dQ _ _ _ hi];split <;> simp_all,h4⟩
 ·refine h.has j hj ?_
  rw[dQ _ _ _ hi] at hl
  split at hl
  ·rename_i e;subst e;exact absurd hj hk
  ·exact hl
theorem R9.put (h:R9 mb b1 κ fv a0 w0 (fuel+1) listed a w) {i d:Nat} {v:Value} (hi:i<40) (hf:listed.getD i true=false) (hd:dOf i=some d) (hv:∀x,exp9 mb b1 κ fv i=some x→v=x)
 (hB:Below w0.heap.size w0 w') (hk:fP i=none)
 (hm:(i=0→∃r clk es,v=.map (some r)∧w0.heap.size≤r∧w'.heap[r]?=some (.map es clk)∧uG κ fv (listed.setIfInBounds i true) es)∧(i≠0→∀(r:Nat) (o:Obj),w.heap[r]?=some o→w'.heap[r]?=some o))
 (h31:i=31→v=a.eval (.tmp 11)) (h0:i=0→listed.getD 31 false=false) (hc31:i=31→listed.getD 0 false=true∧∀j∈[3,6,9,12,15,18,21,24,27,30],listed.getD j false=true):
 R9 mb b1 κ fv a0 w0 fuel (listed.setIfInBounds i true) (a.put (some d) v) w':=by
 have hs:i<listed.size:=by rw[h.size];exact hi
 have hd44:=(aCa i hi d hd).1
 refine⟨by rw[Array.size_setIfInBounds];exact h.size,tY hs hf h.left,by simp only[Act.put,Array.size_setIfInBounds];exact h.tmps,h.defers,fun d' hd'=>?_,fun j d' x hj hdj hx hl=>?_,fun hl=>?_,fun hl=>?_,fun j hj hl=>?_,fun hl j hj=>?_,hB⟩
 ·rw[gP (fun e=>hd' i hi (by rw[hd,e])),h.same d' hd']
 ·by_cases hij:i=j
  ·subst hij
   rw[hd] at hdj
   cases hdj
   rw[lY (by rw[h.tmps];exact hd44)]
   exact hv x hx
  ·have hne:d≠d':=fun e=>by
    have:=vD i hi j hj hij (by rw[hd,hdj,e])
    rw[hd] at this
    cases this
   rw[dQ _ _ _ hs,if_neg hij] at hl
   rw[gP hne]
   exact h.val j d' x hj hdj hx hl
 ·by_cases hi0:i=0
  ·obtain⟨r,clk,es,h1,h2,h3,h4⟩:=hm.1 hi0
   have:d=11:=by rw[hi0] at hd;exact(Option.some.inj hd).symm
   subst this
   exact⟨r,clk,es,by rw[lY (by rw[h.tmps];exact hd44)];exact h1,h2,h3,h4⟩
  ·rw[dQ _ _ _ hs,if_neg hi0] at hl
   obtain⟨r,clk,es,h1,h2,h3,h4⟩:=h.map hl
   have hne:d≠11:=fun e=>by
    have:=vD i hi 0 (by decide) hi0 (by rw[hd,e];rfl)
    rw[hd] at this
    cases this
   exact⟨r,clk,es,by rw[gP hne];exact h1,h2,hm.2 hi0 r _ h3,h4.more hs (by rw[hk];exact fun e=>nomatch e)⟩
 ·by_cases hi31:i=31
  ·have:d=32:=by rw[hi31] at hd;exact(Option.some.inj hd).symm
   subst this
   rw[lY (by rw[h.tmps];exact hd44),gP (by decide)]
   exact h31 hi31
  ·rw[dQ _ _ _ hs,if_neg hi31] at hl
   have hn32:d≠32:=fun e=>by
    have:=vD i hi 31 (by decide) hi31 (by rw[hd,e];rfl)
    rw[hd] at this
    cases this
   have hn11:d≠11:=fun e=>by
    by_cases hi0:i=0
    ·rw[h0 hi0] at hl;cases hl
    ·have:=vD i hi 0 (by decide) hi0 (by rw[hd,e];rfl)
     rw[hd] at this
     cases this
   rw[gP hn32,gP hn11]
   exact h.move hl
 ·rw[dQ _ _ _ hs] at hl ⊢
  split
  ·rfl
  ·split at hl
   ·rename_i e
    by_cases h31':i=31
    ·exact(hc31 h31').1
    ·subst e
     exfalso
     have hall:∀j∈[3,6,9,12,15,18,21,24,27,30,31],j=31∨fP j≠none:=by decide
     rcases hall i hj with e|e
     ·exact h31' e
     ·exact e hk
   ·exact h.first j hj hl
 ·rw[dQ _ _ _ hs] at hl ⊢
  split
  ·rfl
  ·split at hl
   ·rename_i e
    exact(hc31 e).2 j hj
   ·exact h.all31 hl j hj
theorem R9.ins (h:R9 mb b1 κ fv a0 w0 (fuel+1) listed a w) {i:Nat} {k:Int} {v:Value} (hi:i<40) (hf:listed.getD i true=false) (hd:dOf i=none) (hk:fP i=some k) (hku:∀j,fP j=some k→j=i)
 {r clk:Nat} {es:Array MapEntry} (h1:a.eval (.tmp 11)=.map (some r)) (h2:w0.heap.size≤r) (h3:w.heap[r]?=some (.map es clk)) (h4:uG κ fv listed es) (hv:k=κ→v=fv) (h0:listed.getD 0 false=true):
 R9 mb b1 κ fv a0 w0 fuel (listed.setIfInBounds i true) a {w with heap:=w.heap.setIfInBounds r (.map (es.push {key:=.int .i64 k,val:=v,born:=clk}) (clk+1))}:=by
 have hs:i<listed.size:=by rw[h.size];exact hi
 have hr:=(gLt h3)
 have hi0:i≠0:=fun e=>by rw[e] at hk;cases hk
 have hi31:i≠31:=fun e=>by rw[e] at hk;cases hk
 refine⟨by rw[Array.size_setIfInBounds];exact h.size,tY hs hf h.left,h.tmps,h.defers,h.same,fun j d' x hj hdj hx hl=>?_,fun _=>?_,fun hl=>?_,fun j hj hl=>?_,fun hl j hj=>?_,?_⟩
 ·by_cases hij:i=j
  ·subst hij;rw[hd] at hdj;cases hdj
  ·rw[dQ _ _ _ hs,if_neg hij] at hl
   exact h.val j d' x hj hdj hx hl
 ·refine⟨r,clk+1,es.push {key:=.int .i64 k,val:=v,born:=clk},h1,h2,by simp[hr],⟨fun e he=>?_,fun j hj hl=>?_⟩⟩
  ·rw[Array.toList_push,List.mem_append,List.mem_singleton] at he
   rcases he with he|rfl
   ·obtain⟨j,k',g1,g2,g3,g4⟩:=h4.keys e he
    exact⟨j,k',g1,g2,by rw[dQ _ _ _ hs];split <;> simp_all,g4⟩
   ·exact⟨i,k,hk,rfl,by rw[dQ _ _ _ hs,if_pos rfl],hv⟩
  ·rw[dQ _ _ _ hs] at hl
   by_cases hij:i=j
   ·subst hij
    rw[hk] at hj
    cases hj
    exact⟨_,by rw[Array.toList_push];exact List.mem_append_right _ (List.mem_singleton_self _),rfl⟩
   ·rw[if_neg hij] at hl
    obtain⟨e,he,hek⟩:=h4.has j hj hl
    exact⟨e,by rw[Array.toList_push];exact List.mem_append_left _ he,hek⟩
 ·rw[dQ _ _ _ hs,if_neg hi31] at hl
  exact h.move hl
 ·rw[dQ _ _ _ hs]
  split
  ·rfl
  ·exact h0
 ·rw[dQ _ _ _ hs] at hl ⊢
  rw[if_neg hi31] at hl
  split
  ·rfl
  ·exact h.all31 hl j hj
 ·refine⟨h.below.os,h.below.tape,h.below.output,by simp;exact h.below.size,fun q hq=>?_⟩
  have hne:r≠q:=by omega
  show(w.heap.setIfInBounds r _)[q]?=_
  rw[Array.getElem?_setIfInBounds,if_neg hne]
  exact h.below.block q hq
end
end Go.Proofs.YtlibhkkckgkkkaaGreatDoor.Tf
namespace Go.Proofs.YtlibhkkckgkkkaaGreatDoor.Tf
open Go.RowKit Go.Proofs.YtlibhkkckgkkkaaGreatDoor.Mem Go.Proofs.YtlibhkkckgkkkaaGreatDoor.Boo Go.Proofs.Tryz
section
variable {P:Program} {ops:Array Oper} {Q:Exit→Act→World→Prop} {i:Nat} {o:Oper} {a:Act} {w w':World} {K:Act→World→Prop}
theorem qU {v:Value} (hi:ops[i]?=some o) (hg:o.guard=none) (hr:(execOp a.eval o).run P w=.ok (.value v) w') (h:K (a.put o.dst v) w'):wpOp P ops Q i K a w:=by
 unfold wpOp
 simp only[hi,Region.wanted,hg,if_true]
 left
 unfold Oper.wp
 rw[hr]
 exact h
theorem aCn (hi:ops[i]?=some o) (hg:o.guard=none) (hr:(execOp a.eval o).run P w=.ok .skip w') (h:K (a.put o.dst undef) w'):wpOp P ops Q i K a w:=by
 unfold wpOp
 simp only[hi,Region.wanted,hg,if_true]
 left
 unfold Oper.wp
 rw[hr]
 exact h
theorem qV {f:Nat} {args:Array Value} (hi:ops[i]?=some o) (hg:o.guard=none) (hr:(execOp a.eval o).run P w=.ok (.enter f args) w) (h:Calls P f args w fun e w'=>∃v,e=.returned v∧K (a.put o.dst v) w'):wpOp P ops Q i K a w:=by
 unfold wpOp
 simp only[hi,Region.wanted,hg,if_true]
 left
 unfold Oper.wp
 rw[hr,Oper.upon_enter]
 exact h.mono fun e w' ⟨v,he,hk⟩=>by subst he;exact hk
end
theorem aBu:(List.range 40).map (oC lP)=[[],[],[1],[0,2],[],[4],[0,5],[],[7],[0,8],[],[10],[0,11],[],[13],[0,14],[],[16],[0,17],[],[19],[0,20],[],[22],[0,23],[],[25,23],[0,26],[],[28],[0,29],[0,1,2,3,4,5,6,7,8,9,10,11,12,13,14,15,16,17,18,19,20,21,22,23,24,25,26,27,28,29,30],[],[32],[31,33],[34],[35],[35],[36,26,0,1,2,3,4,5,6,7,8,9,10,11,12,13,14,15,16,17,18,19,20,21,22,23,24,25,26,27,28,29,30,31,32,33,34,35,36],[37,38,0,1,2,3,4,5,6,7,8,9,10,11,12,13,14,15,16,17,18,19,20,21,22,23,24,25,26,27,28,29,30,31,32,33,34,35,36,37,38]]:=by kernel_rfl
theorem aHo {i:Nat} (h:i<40):(List.range 40).map (oC lP)=(List.range 40).map (oC lP)→oC lP i=((List.range 40).map (oC lP)).getD i []:=by
 intro _
 rw[List.getD_eq_getElem?_getD,List.getElem?_map,List.getElem?_range h]
 rfl
theorem aO3 {listed:Array Bool} {i:Nat} (h:i∈Region.ready .any lP listed):i<40∧listed.getD i true=false∧∀j∈(([[],[],[1],[0,2],[],[4],[0,5],[],[7],[0,8],[],[10],[0,11],[],[13],[0,14],[],[16],[0,17],[],[19],[0,20],[],[22],[0,23],[],[25,23],[0,26],[],[28],[0,29],[0,1,2,3,4,5,6,7,8,9,10,11,12,13,14,15,16,17,18,19,20,21,22,23,24,25,26,27,28,29,30],[],[32],[31,33],[34],[35],[35],[36,26,0,1,2,3,4,5,6,7,8,9,10,11,12,13,14,15,16,17,18,19,20,21,22,23,24,25,26,27,28,29,30,31,32,33,34,35,36],[37,38,0,1,2,3,4,5,6,7,8,9,10,11,12,13,14,15,16,17,18,19,20,21,22,23,24,25,26,27,28,29,30,31,32,33,34,35,36,37,38]]:List (List Nat)).getD i []),listed.getD j false=true:=by
 obtain⟨h1,h2,h3⟩:=wE h
 rw[aBo] at h1
 rw[aHo h1 rfl,aBu] at h3
 exact⟨h1,h2,h3⟩
structure Env9 (mb b1:Nat) (κ:Int) (fv:Value) (a0:Act) (w0:World):Prop where
 me:a0.eval (.tmp 0)=dY mb
 arg:a0.eval (.tmp 3)=dY b1
 load:∀w,Below w0.heap.size w0 w→(Instr.loadAt 3 (dY b1)).run prog w=.ok (.int .i64 κ) w
 fn:∀i f,fP i=some κ→fnOf (i-1)=some f→fv=pI f mb
 any:∃i,i<40∧fP i=some κ∧(fnOf (i-1)).isSome=true
 mails:∀W g,Calls prog 31 #[dY mb,.func (.func g) #[] #[]] W fun e w'=>∃u,e=.returned u∧Below W.heap.size W w'
section
variable {Q:Exit→Act→World→Prop} {mb b1:Nat} {κ:Int} {fv:Value} {a0:Act} {w0:World} {fuel:Nat} {listed:Array Bool} {a:Act} {w w':World}
theorem R9.me (h:R9 mb b1 κ fv a0 w0 fuel listed a w) (E:Env9 mb b1 κ fv a0 w0):a.eval (.tmp 0)=dY mb:=by
 rw[h.same 0 (fun i hi e=>(aCa i hi 0 e).2.1 rfl)];exact E.me
theorem R9.arg (h:R9 mb b1 κ fv a0 w0 fuel listed a w) (E:Env9 mb b1 κ fv a0 w0):a.eval (.tmp 3)=dY b1:=by
 rw[h.same 3 (fun i hi e=>(aCa i hi 3 e).2.2.1 rfl)];exact E.arg
theorem R9.pure (h:R9 mb b1 κ fv a0 w0 (fuel+1) listed a w) {i d:Nat} {v:Value} (hi:i<40) (hf:listed.getD i true=false) (hd:dOf i=some d) (hv:exp9 mb b1 κ fv i=some v) (hk:fP i=none) (h0:i≠0) (h31:i≠31)
 (hr:(execOp a.eval (op9 i)).run prog w=.ok (.value v) w):wpOp prog lP Q i (fun a' w'=>R9 mb b1 κ fv a0 w0 fuel (listed.setIfInBounds i true) a' w') a w:=by
 refine qU (xB hi) (pJ hi) hr ?_
 rw[dst9 hi,hd]
 exact h.put hi hf hd (fun x hx=>by rw[hv] at hx;exact Option.some.inj hx) h.below hk ⟨fun e=>absurd e h0,fun _ _ _ h=>h⟩ (fun e=>absurd e h31) (fun e=>absurd e h0) (fun e=>absurd e h31)
theorem R9.insert (h:R9 mb b1 κ fv a0 w0 (fuel+1) listed a w) {i:Nat} {k:Int} {s:Nat} (hi:i<40) (hf:listed.getD i true=false) (hd:dOf i=none) (hk:fP i=some k) (hku:∀j,fP j=some k→j=i)
 (h0:listed.getD 0 false=true) (ho:(op9 i).op=.insert 78 (.tmp 11) (.const (.int .i64 k)) (.tmp s)) (hv:k=κ→a.eval (.tmp s)=fv):
 wpOp prog lP Q i (fun a' w'=>R9 mb b1 κ fv a0 w0 fuel (listed.setIfInBounds i true) a' w') a w:=by
 obtain⟨r,clk,es,h1,h2,h3,h4⟩:=h.map h0
 have hrun:=jH (P:=prog) (w:=w) underlying78 underlying3 h3 k (a.eval (.tmp s)) (fun e he=>by
  obtain⟨j,k',g1,g2,g3,_⟩:=h4.keys e he
  refine⟨k',g2,fun e=>?_⟩
  subst e
  have:=hku j g1
  subst this
  rw[Array.getD_eq_getD_getElem?,Array.getElem?_eq_getElem (by rw[h.size];exact hi)] at hf g3
  simp only[Option.getD_some] at hf g3
  rw[hf] at g3
  cases g3)
 refine aCn (xB hi) (pJ hi) (w':={w with heap:=w.heap.setIfInBounds r (.map (es.push {key:=.int .i64 k,val:=a.eval (.tmp s),born:=clk}) (clk+1))}) ?_ ?_
 ·unfold execOp
  rw[ho]
  have hc:a.eval (.const (.int .i64 k))=.int .i64 k:=rfl
  simp only[h1,hc,Sem.run_bind,hrun,Result.andThen_ok,Sem.run_pure]
 ·rw[dst9 hi,hd]
  exact h.ins hi hf hd hk hku h1 h2 h3 h4 hv h0
theorem fM:∀i j k,fP i=some k→fP j=some k→j=i:=by
 intro i j k hi hj
 have h:∀i k,fP i=some k→i<40∧(i:Int)=3 * k:=by
  intro i k h
  unfold fP at h
  split at h <;> first|(cases h;constructor <;> decide)|cases h
 have h1:=(h i k hi).2
 have h2:=(h j k hj).2
 omega
theorem aQ8 (E:Env9 mb b1 κ fv a0 w0) (h:R9 mb b1 κ fv a0 w0 (fuel+1) listed a w):∀i∈Region.ready .any lP listed,wpOp prog lP Q i (fun a' w'=>R9 mb b1 κ fv a0 w0 fuel (listed.setIfInBounds i true) a' w') a w:=by
 intro i hi
 obtain⟨hi40,hf,hn⟩:=aO3 hi
 have hme:=h.me E
 have harg:=h.arg E
 match i,hi40 with
 |0,_=>
  refine qU (v:=.map (some w.heap.size)) (w':=w.alloc (.map #[] 0)) (xB (by decide)) (pJ (by decide)) (by unfold execOp;rw[show(op9 0).op=.makeMap 78 none by kernel_rfl];rfl) ?_
  rw[dst9 (by decide)]
  have hz:∀j,j∈[3,6,9,12,15,18,21,24,27,30,31]→listed.getD j false=false:=fun j hj=>by
   cases hb:listed.getD j false with
   |false=>rfl
   |true=>
    exfalso
    have h00:=h.first j hj hb
    rw[Array.getD_eq_getD_getElem?,Array.getElem?_eq_getElem (by rw[h.size];decide)] at hf h00
    simp only[Option.getD_some] at hf h00
    rw[hf] at h00
    cases h00
  refine h.put (d:=11) (by decide) hf rfl (fun x hx=>by cases hx) (h.below.alloc h.below.size _) rfl ⟨fun _=>⟨w.heap.size,0,#[],rfl,h.below.size,(by show(w.heap.push _)[w.heap.size]?=_;simp),⟨(fun e he=>by cases he),fun j hj hl=>?_⟩⟩,fun e=>absurd rfl e⟩ (fun e=>by cases e) (fun _=>hz 31 (by decide)) (fun e=>by cases e)
  rw[dQ _ _ _ (by rw[h.size];decide)] at hl
  split at hl
  ·rename_i e;subst e;cases hj
  ·have hm:j∈[3,6,9,12,15,18,21,24,27,30,31]:=by
    unfold fP at hj
    split at hj <;> first|decide|cases hj
   rw[hz j hm] at hl
   cases hl
 |1,_=>
  exact h.pure (by decide) hf rfl rfl rfl (by decide) (by decide) (by unfold execOp;rw[show(op9 1).op=.move (.tmp 0) by kernel_rfl];simp only[hme,Sem.run_pure])
 |2,_=>
  have h1:=h.val 1 12 (dY mb) (by decide) rfl rfl (hn 1 (by decide))
  exact h.pure (by decide) hf rfl rfl rfl (by decide) (by decide) (by unfold execOp;rw[show(op9 2).op=.makeFunc (.func 24) #[.tmp 12] #[] by kernel_rfl];simp only[Instr.makeFunc,List.map_toArray,List.map_cons,List.map_nil,h1,Sem.run_bind,Sem.run_pure,Result.andThen_ok];rfl)
 |3,_=>
  have h1:=h.val 2 13 (pI 24 mb) (by decide) rfl rfl (hn 2 (by decide))
  exact h.insert (s:=13) (by decide) hf rfl rfl (fun j hj=>fM _ _ _ rfl hj) (hn 0 (by decide)) (by kernel_rfl) (fun e=>by rw[h1];exact(E.fn 3 24 (by rw[←e];rfl) rfl).symm)
 |4,_=>
  exact h.pure (by decide) hf rfl rfl rfl (by decide) (by decide) (by unfold execOp;rw[show(op9 4).op=.move (.tmp 0) by kernel_rfl];simp only[hme,Sem.run_pure])
 |5,_=>
  have h1:=h.val 4 14 (dY mb) (by decide) rfl rfl (hn 4 (by decide))
  exact h.pure (by decide) hf rfl rfl rfl (by decide) (by decide) (by unfold execOp;rw[show(op9 5).op=.makeFunc (.func 25) #[.tmp 14] #[] by kernel_rfl];simp only[Instr.makeFunc,List.map_toArray,List.map_cons,List.map_nil,h1,Sem.run_bind,Sem.run_pure,Result.andThen_ok];rfl)
 |6,_=>
  have h1:=h.val 5 15 (pI 25 mb) (by decide) rfl rfl (hn 5 (by decide))
  exact h.insert (s:=15) (by decide) hf rfl rfl (fun j hj=>fM _ _ _ rfl hj) (hn 0 (by decide)) (by kernel_rfl) (fun e=>by rw[h1];exact(E.fn 6 25 (by rw[←e];rfl) rfl).symm)
 |7,_=>
  exact h.pure (by decide) hf rfl rfl rfl (by decide) (by decide) (by unfold execOp;rw[show(op9 7).op=.move (.tmp 0) by kernel_rfl];simp only[hme,Sem.run_pure])
 |8,_=>
  have h1:=h.val 7 16 (dY mb) (by decide) rfl rfl (hn 7 (by decide))
  exact h.pure (by decide) hf rfl rfl rfl (by decide) (by decide) (by unfold execOp;rw[show(op9 8).op=.makeFunc (.func 26) #[.tmp 16] #[] by kernel_rfl];simp only[Instr.makeFunc,List.map_toArray,List.map_cons,List.map_nil,h1,Sem.run_bind,Sem.run_pure,Result.andThen_ok];rfl)
 |9,_=>
  have h1:=h.val 8 17 (pI 26 mb) (by decide) rfl rfl (hn 8 (by decide))
  exact h.insert (s:=17) (by decide) hf rfl rfl (fun j hj=>fM _ _ _ rfl hj) (hn 0 (by decide)) (by kernel_rfl) (fun e=>by rw[h1];exact(E.fn 9 26 (by rw[←e];rfl) rfl).symm)
 |10,_=>
  exact h.pure (by decide) hf rfl rfl rfl (by decide) (by decide) (by unfold execOp;rw[show(op9 10).op=.move (.tmp 0) by kernel_rfl];simp only[hme,Sem.run_pure])
 |11,_=>
  have h1:=h.val 10 18 (dY mb) (by decide) rfl rfl (hn 10 (by decide))
  exact h.pure (by decide) hf rfl rfl rfl (by decide) (by decide) (by unfold execOp;rw[show(op9 11).op=.makeFunc (.func 27) #[.tmp 18] #[] by kernel_rfl];simp only[Instr.makeFunc,List.map_toArray,List.map_cons,List.map_nil,h1,Sem.run_bind,Sem.run_pure,Result.andThen_ok];rfl)
 |12,_=>
  have h1:=h.val 11 19 (pI 27 mb) (by decide) rfl rfl (hn 11 (by decide))
  exact h.insert (s:=19) (by decide) hf rfl rfl (fun j hj=>fM _ _ _ rfl hj) (hn 0 (by decide)) (by kernel_rfl) (fun e=>by rw[h1];exact(E.fn 12 27 (by rw[←e];rfl) rfl).symm)
 |13,_=>
  exact h.pure (by decide) hf rfl rfl rfl (by decide) (by decide) (by unfold execOp;rw[show(op9 13).op=.move (.tmp 0) by kernel_rfl];simp only[hme,Sem.run_pure])
 |14,_=>
  have h1:=h.val 13 20 (dY mb) (by decide) rfl rfl (hn 13 (by decide))
  exact h.pure (by decide) hf rfl rfl rfl (by decide) (by decide) (by unfold execOp;rw[show(op9 14).op=.makeFunc (.func 28) #[.tmp 20] #[] by kernel_rfl];simp only[Instr.makeFunc,List.map_toArray,List.map_cons,List.map_nil,h1,Sem.run_bind,Sem.run_pure,Result.andThen_ok];rfl)
 |15,_=>
  have h1:=h.val 14 21 (pI 28 mb) (by decide) rfl rfl (hn 14 (by decide))
  exact h.insert (s:=21) (by decide) hf rfl rfl (fun j hj=>fM _ _ _ rfl hj) (hn 0 (by decide)) (by kernel_rfl) (fun e=>by rw[h1];exact(E.fn 15 28 (by rw[←e];rfl) rfl).symm)
 |16,_=>
  exact h.pure (by decide) hf rfl rfl rfl (by decide) (by decide) (by unfold execOp;rw[show(op9 16).op=.move (.tmp 0) by kernel_rfl];simp only[hme,Sem.run_pure])
 |17,_=>
  have h1:=h.val 16 22 (dY mb) (by decide) rfl rfl (hn 16 (by decide))
  exact h.pure (by decide) hf rfl rfl rfl (by decide) (by decide) (by unfold execOp;rw[show(op9 17).op=.makeFunc (.func 29) #[.tmp 22] #[] by kernel_rfl];simp only[Instr.makeFunc,List.map_toArray,List.map_cons,List.map_nil,h1,Sem.run_bind,Sem.run_pure,Result.andThen_ok];rfl)
 |18,_=>
  have h1:=h.val 17 23 (pI 29 mb) (by decide) rfl rfl (hn 17 (by decide))
  exact h.insert (s:=23) (by decide) hf rfl rfl (fun j hj=>fM _ _ _ rfl hj) (hn 0 (by decide)) (by kernel_rfl) (fun e=>by rw[h1];exact(E.fn 18 29 (by rw[←e];rfl) rfl).symm)
 |19,_=>
  exact h.pure (by decide) hf rfl rfl rfl (by decide) (by decide) (by unfold execOp;rw[show(op9 19).op=.move (.tmp 0) by kernel_rfl];simp only[hme,Sem.run_pure])
 |20,_=>
  have h1:=h.val 19 24 (dY mb) (by decide) rfl rfl (hn 19 (by decide))
  exact h.pure (by decide) hf rfl rfl rfl (by decide) (by decide) (by unfold execOp;rw[show(op9 20).op=.makeFunc (.func 30) #[.tmp 24] #[] by kernel_rfl];simp only[Instr.makeFunc,List.map_toArray,List.map_cons,List.map_nil,h1,Sem.run_bind,Sem.run_pure,Result.andThen_ok];rfl)
 |21,_=>
  have h1:=h.val 20 25 (pI 30 mb) (by decide) rfl rfl (hn 20 (by decide))
  exact h.insert (s:=25) (by decide) hf rfl rfl (fun j hj=>fM _ _ _ rfl hj) (hn 0 (by decide)) (by kernel_rfl) (fun e=>by rw[h1];exact(E.fn 21 30 (by rw[←e];rfl) rfl).symm)
 |22,_=>
  exact h.pure (by decide) hf rfl rfl rfl (by decide) (by decide) (by unfold execOp;rw[show(op9 22).op=.move (.tmp 0) by kernel_rfl];simp only[hme,Sem.run_pure])
 |23,_=>
  have h1:=h.val 22 26 (dY mb) (by decide) rfl rfl (hn 22 (by decide))
  refine qV (f:=31) (args:=#[dY mb,.func (.func 32) #[] #[]]) (xB (by decide)) (pJ (by decide)) ?_ ((E.mails w _).mono fun e w' ⟨u,he,hb⟩=>⟨u,he,?_⟩)
  ·unfold execOp
   rw[show(op9 23).op=.call {callee:=.value (.func 31),args:=#[.tmp 26,.func 32],argTypes:=#[34,77]} by kernel_rfl]
   simp only[resolve,List.map_toArray,List.map_cons,List.map_nil,h1,Sem.run_bind]
   kernel_rfl
  ·rw[dst9 (by decide)]
   exact h.put (d:=27) (by decide) hf rfl (fun x hx=>by cases hx) (bF h.below h.below.size hb) rfl ⟨(fun e=>by cases e),fun _ r o hr=>(hb.block r (gLt hr)).trans hr⟩ (fun e=>by cases e) (fun e=>by cases e) (fun e=>by cases e)
 |24,_=>
  exact h.insert (s:=27) (by decide) hf rfl rfl (fun j hj=>fM _ _ _ rfl hj) (hn 0 (by decide)) (by kernel_rfl) (fun e=>by
   obtain⟨j,_,hj,hs⟩:=E.any
   have:=fM _ _ _ (show fP 24=some κ by rw[←e];rfl) hj
   subst this
   cases hs)
 |25,_=>
  exact h.pure (by decide) hf rfl rfl rfl (by decide) (by decide) (by unfold execOp;rw[show(op9 25).op=.move (.tmp 0) by kernel_rfl];simp only[hme,Sem.run_pure])
 |26,_=>
  have h1:=h.val 25 28 (dY mb) (by decide) rfl rfl (hn 25 (by decide))
  refine qV (f:=31) (args:=#[dY mb,.func (.func 33) #[] #[]]) (xB (by decide)) (pJ (by decide)) ?_ ((E.mails w _).mono fun e w' ⟨u,he,hb⟩=>⟨u,he,?_⟩)
  ·unfold execOp
   rw[show(op9 26).op=.call {callee:=.value (.func 31),args:=#[.tmp 28,.func 33],argTypes:=#[34,77]} by kernel_rfl]
   simp only[resolve,List.map_toArray,List.map_cons,List.map_nil,h1,Sem.run_bind]
   kernel_rfl
  ·rw[dst9 (by decide)]
   exact h.put (d:=29) (by decide) hf rfl (fun x hx=>by cases hx) (bF h.below h.below.size hb) rfl ⟨(fun e=>by cases e),fun _ r o hr=>(hb.block r (gLt hr)).trans hr⟩ (fun e=>by cases e) (fun e=>by cases e) (fun e=>by cases e)
 |27,_=>
  exact h.insert (s:=29) (by decide) hf rfl rfl (fun j hj=>fM _ _ _ rfl hj) (hn 0 (by decide)) (by kernel_rfl) (fun e=>by
   obtain⟨j,_,hj,hs⟩:=E.any
   have:=fM _ _ _ (show fP 27=some κ by rw[←e];rfl) hj
   subst this
   cases hs)
 |28,_=>
  exact h.pure (by decide) hf rfl rfl rfl (by decide) (by decide) (by unfold execOp;rw[show(op9 28).op=.move (.tmp 0) by kernel_rfl];simp only[hme,Sem.run_pure])
 |29,_=>
  have h1:=h.val 28 30 (dY mb) (by decide) rfl rfl (hn 28 (by decide))
  exact h.pure (by decide) hf rfl rfl rfl (by decide) (by decide) (by unfold execOp;rw[show(op9 29).op=.makeFunc (.func 34) #[.tmp 30] #[] by kernel_rfl];simp only[Instr.makeFunc,List.map_toArray,List.map_cons,List.map_nil,h1,Sem.run_bind,Sem.run_pure,Result.andThen_ok];rfl)
 |30,_=>
  have h1:=h.val 29 31 (pI 34 mb) (by decide) rfl rfl (hn 29 (by decide))
  exact h.insert (s:=31) (by decide) hf rfl rfl (fun j hj=>fM _ _ _ rfl hj) (hn 0 (by decide)) (by kernel_rfl) (fun e=>by rw[h1];exact(E.fn 30 34 (by rw[←e];rfl) rfl).symm)
 |31,_=>
  refine qU (v:=a.eval (.tmp 11)) (w':=w) (xB (by decide)) (pJ (by decide)) (by unfold execOp;rw[show(op9 31).op=.move (.tmp 11) by kernel_rfl];simp only[Sem.run_pure]) ?_
  rw[dst9 (by decide)]
  exact h.put (d:=32) (by decide) hf rfl (fun x hx=>by cases hx) h.below rfl ⟨(fun e=>by cases e),fun _ _ _ h=>h⟩ (fun _=>rfl) (fun e=>by cases e) (fun _=>⟨hn 0 (by decide),fun j hj=>hn j (by revert hj;revert j;decide)⟩)
 |32,_=>
  exact h.pure (by decide) hf rfl rfl rfl (by decide) (by decide) (by unfold execOp;rw[show(op9 32).op=.fieldAddr 42 (.tmp 3) 0 by kernel_rfl];simp only[harg];kernel_rfl)
 |33,_=>
  have h1:=h.val 32 33 (dY b1) (by decide) rfl rfl (hn 32 (by decide))
  exact h.pure (by decide) hf rfl rfl rfl (by decide) (by decide) (by unfold execOp;rw[show(op9 33).op=.load 3 (.tmp 33) by kernel_rfl];simp only[h1,Sem.run_bind,E.load w h.below,Result.andThen_ok,Sem.run_pure])
 |34,_=>
  have h1:=h.val 33 34 (.int .i64 κ) (by decide) rfl rfl (hn 33 (by decide))
  have h2:=h.move (hn 31 (by decide))
  have h00:=h.first 31 (by decide) (hn 31 (by decide))
  obtain⟨r,clk,es,g1,g2,g3,g4⟩:=h.map h00
  obtain⟨j,hj,hjk,_⟩:=E.any
  have hjl:=h.all31 (hn 31 (by decide)) j (by unfold fP at hjk;split at hjk <;> first|decide|cases hjk)
  have hl:=nY (P:=prog) (w:=w) underlying78 underlying3 g3 κ fv (fun e he=>by
   obtain⟨_,k',_,q2,_,q4⟩:=g4.keys e he
   exact⟨k',q2,q4⟩) (g4.has j hjk hjl) true
  exact h.pure (by decide) hf rfl rfl rfl (by decide) (by decide) (by unfold execOp;rw[show(op9 34).op=.lookup 78 (.tmp 32) (.tmp 34) true by kernel_rfl];simp only[h2,g1,h1,Sem.run_bind,hl,Result.andThen_ok,Sem.run_pure,if_true])
 |35,_=>
  have h1:=h.val 34 35 (.tuple #[fv,.bool true]) (by decide) rfl rfl (hn 34 (by decide))
  exact h.pure (by decide) hf rfl rfl rfl (by decide) (by decide) (by unfold execOp;rw[show(op9 35).op=.move (.tmp 35) by kernel_rfl];simp only[h1,Sem.run_pure])
 |36,_=>
  have h1:=h.val 35 10 (.tuple #[fv,.bool true]) (by decide) rfl rfl (hn 35 (by decide))
  exact h.pure (by decide) hf rfl rfl rfl (by decide) (by decide) (by unfold execOp;rw[show(op9 36).op=.extract (.tmp 10) 0 by kernel_rfl];simp only[h1];rfl)
 |37,_=>
  have h1:=h.val 35 10 (.tuple #[fv,.bool true]) (by decide) rfl rfl (hn 35 (by decide))
  exact h.pure (by decide) hf rfl rfl rfl (by decide) (by decide) (by unfold execOp;rw[show(op9 37).op=.extract (.tmp 10) 1 by kernel_rfl];simp only[h1];rfl)
 |38,_=>
  have h1:=h.val 36 36 fv (by decide) rfl rfl (hn 36 (by decide))
  exact h.pure (by decide) hf rfl rfl rfl (by decide) (by decide) (by unfold execOp;rw[show(op9 38).op=.assign (.tmp 36) by kernel_rfl];simp only[h1,Sem.run_pure])
 |39,_=>
  have h1:=h.val 37 37 (.bool true) (by decide) rfl rfl (hn 37 (by decide))
  exact h.pure (by decide) hf rfl rfl rfl (by decide) (by decide) (by unfold execOp;rw[show(op9 39).op=.assign (.tmp 37) by kernel_rfl];simp only[h1,Sem.run_pure])
 |n+40,hlt=>exact absurd hlt (by omega)
theorem zD (hs:listed.size=40) (hc:listed.toList.count false=fuel+1):Region.ready .any lP listed≠[]:=by
 have hex:∃i,i<40∧listed.getD i true=false:=by
  have:0<listed.toList.count false:=by omega
  obtain⟨i,hi,he⟩:=List.mem_iff_getElem.1 (List.count_pos_iff.1 this)
  rw[Array.length_toList] at hi
  refine⟨i,by omega,?_⟩
  rw[Array.getD_eq_getD_getElem?,Array.getElem?_eq_getElem hi]
  simpa using he
 have hmin:∀n,(∃i,i<n∧i<40∧listed.getD i true=false)→∃i,i<40∧listed.getD i true=false∧∀j,j<i→listed.getD j true=true:=by
  intro n
  induction n with
  |zero=>rintro⟨i,hi,_⟩;omega
  |succ n ih=>
   rintro⟨i,h1,h2,h3⟩
   by_cases hh:∃i,i<n∧i<40∧listed.getD i true=false
   ·exact ih hh
   ·refine⟨i,h2,h3,fun j hj=>?_⟩
    cases hb:listed.getD j true with
    |true=>rfl
    |false=>exact absurd ⟨j,by omega,by omega,hb⟩ hh
 obtain⟨i,hi,hf⟩:=hex
 obtain⟨i,hi,hf,hm⟩:=hmin 40 ⟨i,hi,hi,hf⟩
 intro hnil
 have hin:i∈Region.ready .any lP listed:=by
  unfold Region.ready
  rw[List.mem_filter,List.mem_range,aBo]
  refine⟨hi,?_⟩
  rw[hf,xB hi]
  simp only[Bool.not_false,Bool.true_and,Option.map_some,Option.getD_some]
  rw[Array.all_eq_true']
  intro e he
  rw[Bool.or_eq_true,Bool.not_eq_true']
  cases hb:Region.binds .any e with
  |false=>exact .inl rfl
  |true=>
   right
   have hne:e.on∈oC lP i:=by
    unfold oC
    rw[xB hi]
    simp only[Option.map_some,Option.getD_some]
    exact List.mem_filterMap.2 ⟨e,by simpa using he,by rw[hb];rfl⟩
   have hlt:e.on<i:=by
    have hall:∀i,i<40→∀j∈([[],[],[1],[0,2],[],[4],[0,5],[],[7],[0,8],[],[10],[0,11],[],[13],[0,14],[],[16],[0,17],[],[19],[0,20],[],[22],[0,23],[],[25,23],[0,26],[],[28],[0,29],[0,1,2,3,4,5,6,7,8,9,10,11,12,13,14,15,16,17,18,19,20,21,22,23,24,25,26,27,28,29,30],[],[32],[31,33],[34],[35],[35],[36,26,0,1,2,3,4,5,6,7,8,9,10,11,12,13,14,15,16,17,18,19,20,21,22,23,24,25,26,27,28,29,30,31,32,33,34,35,36],[37,38,0,1,2,3,4,5,6,7,8,9,10,11,12,13,14,15,16,17,18,19,20,21,22,23,24,25,26,27,28,29,30,31,32,33,34,35,36,37,38]]:List (List Nat)).getD i [],j<i:=by decide +kernel
    rw[aHo hi rfl,aBu] at hne
    exact hall i hi _ hne
   have:=hm e.on hlt
   rw[Array.getD_eq_getD_getElem?,Array.getElem?_eq_getElem (by omega)] at this ⊢
   simpa using this
 rw[hnil] at hin
 cases hin
theorem aLh (E:Env9 mb b1 κ fv a0 w0) (ht:a0.tmps.size=44) (hd:a0.defers=[])
 (hQ:∀a w,a.tmps.size=44→a.defers=[]→a.eval (.tmp 0)=dY mb→a.eval (.tmp 3)=dY b1→a.eval (.tmp 4)=a0.eval (.tmp 4)→a.eval (.tmp 5)=fv→a.eval (.tmp 6)=.bool true→Below w0.heap.size w0 w→Q .normal a w):
 wpAny prog .any lP Q 40 (Array.replicate 40 false) a0 w0:=by
 refine aCp (R9 mb b1 κ fv a0 w0) (fun listed a w h=>?_) (fun fuel listed a w h=>.inr ⟨zD h.size h.left,aQ8 E h⟩) 40 _ _ _ ?_
 ·have hall:∀i,i<40→listed.getD i true=true∧listed.getD i false=true:=fun i hi=>by
   have hi':i<listed.size:=by rw[h.size];exact hi
   have h0:=List.count_eq_zero.1 h.left
   have hm:listed[i]≠false:=fun e=>h0 (by rw[←e];exact Array.getElem_mem_toList hi')
   rw[Array.getD_eq_getD_getElem?,Array.getD_eq_getD_getElem?,Array.getElem?_eq_getElem hi']
   simp only[Option.getD_some]
   cases hb:listed[i] with
   |true=>exact⟨rfl,rfl⟩
   |false=>exact absurd hb hm
  refine⟨?_,hQ a w h.tmps h.defers (h.me E) (h.arg E) (h.same 4 (fun i hi e=>(aCa i hi 4 e).2.2.2 rfl)) (h.val 38 5 fv (by decide) rfl rfl (hall 38 (by decide)).2) (h.val 39 6 (.bool true) (by decide) rfl rfl (hall 39 (by decide)).2) h.below⟩
  unfold Region.ready
  rw[List.filter_eq_nil_iff]
  intro i hi
  rw[List.mem_range,aBo] at hi
  rw[(hall i hi).1]
  simp
 ·have hz:∀j,(Array.replicate 40 false).getD j false=false:=fun j=>by
   rw[Array.getD_eq_getD_getElem?,Array.getElem?_replicate]
   split <;> rfl
  refine⟨by simp,by simp,ht,hd,fun d _=>rfl,fun i d x _ _ _ hl=>?_,fun hl=>?_,fun hl=>?_,fun j _ hl=>?_,fun hl=>?_,bR⟩ <;> (rw[hz] at hl;cases hl)
end
end Go.Proofs.YtlibhkkckgkkkaaGreatDoor.Tf
namespace Go.Proofs.YtlibhkkckgkkkaaGreatDoor.Tf
open Go.RowKit Go.Proofs.YtlibhkkckgkkkaaGreatDoor.Mem Go.Proofs.YtlibhkkckgkkkaaGreatDoor.Boo
theorem aSb (x:Array Value) (h:x.size=44):∃u0 u1 u2 u3 u4 u5 u6 u7 u8 u9 u10 u11 u12 u13 u14 u15 u16 u17 u18 u19 u20 u21 u22 u23 u24 u25 u26 u27 u28 u29 u30 u31 u32 u33 u34 u35 u36 u37 u38 u39 u40 u41 u42 u43:Value,x=#[u0,u1,u2,u3,u4,u5,u6,u7,u8,u9,u10,u11,u12,u13,u14,u15,u16,u17,u18,u19,u20,u21,u22,u23,u24,u25,u26,u27,u28,u29,u30,u31,u32,u33,u34,u35,u36,u37,u38,u39,u40,u41,u42,u43]:=by
 obtain⟨l⟩:=x
 have h':l.length=44:=h
 rcases l with _|⟨u0,l⟩
 ·simp at h'
 rcases l with _|⟨u1,l⟩
 ·simp at h'
 rcases l with _|⟨u2,l⟩
 ·simp at h'
 rcases l with _|⟨u3,l⟩
 ·simp at h'
 rcases l with _|⟨u4,l⟩
 ·simp at h'
 rcases l with _|⟨u5,l⟩
 ·simp at h'
 rcases l with _|⟨u6,l⟩
 ·simp at h'
 rcases l with _|⟨u7,l⟩
 ·simp at h'
 rcases l with _|⟨u8,l⟩
 ·simp at h'
 rcases l with _|⟨u9,l⟩
 ·simp at h'
 rcases l with _|⟨u10,l⟩
 ·simp at h'
 rcases l with _|⟨u11,l⟩
 ·simp at h'
 rcases l with _|⟨u12,l⟩
 ·simp at h'
 rcases l with _|⟨u13,l⟩
 ·simp at h'
 rcases l with _|⟨u14,l⟩
 ·simp at h'
 rcases l with _|⟨u15,l⟩
 ·simp at h'
 rcases l with _|⟨u16,l⟩
 ·simp at h'
 rcases l with _|⟨u17,l⟩
 ·simp at h'
 rcases l with _|⟨u18,l⟩
 ·simp at h'
 rcases l with _|⟨u19,l⟩
 ·simp at h'
 rcases l with _|⟨u20,l⟩
 ·simp at h'
 rcases l with _|⟨u21,l⟩
 ·simp at h'
 rcases l with _|⟨u22,l⟩
 ·simp at h'
 rcases l with _|⟨u23,l⟩
 ·simp at h'
 rcases l with _|⟨u24,l⟩
 ·simp at h'
 rcases l with _|⟨u25,l⟩
 ·simp at h'
 rcases l with _|⟨u26,l⟩
 ·simp at h'
 rcases l with _|⟨u27,l⟩
 ·simp at h'
 rcases l with _|⟨u28,l⟩
 ·simp at h'
 rcases l with _|⟨u29,l⟩
 ·simp at h'
 rcases l with _|⟨u30,l⟩
 ·simp at h'
 rcases l with _|⟨u31,l⟩
 ·simp at h'
 rcases l with _|⟨u32,l⟩
 ·simp at h'
 rcases l with _|⟨u33,l⟩
 ·simp at h'
 rcases l with _|⟨u34,l⟩
 ·simp at h'
 rcases l with _|⟨u35,l⟩
 ·simp at h'
 rcases l with _|⟨u36,l⟩
 ·simp at h'
 rcases l with _|⟨u37,l⟩
 ·simp at h'
 rcases l with _|⟨u38,l⟩
 ·simp at h'
 rcases l with _|⟨u39,l⟩
 ·simp at h'
 rcases l with _|⟨u40,l⟩
 ·simp at h'
 rcases l with _|⟨u41,l⟩
 ·simp at h'
 rcases l with _|⟨u42,l⟩
 ·simp at h'
 rcases l with _|⟨u43,l⟩
 ·simp at h'
 rcases l with _|⟨_,l⟩
 ·exact⟨u0,u1,u2,u3,u4,u5,u6,u7,u8,u9,u10,u11,u12,u13,u14,u15,u16,u17,u18,u19,u20,u21,u22,u23,u24,u25,u26,u27,u28,u29,u30,u31,u32,u33,u34,u35,u36,u37,u38,u39,u40,u41,u42,u43,rfl⟩
 ·simp at h'
theorem aD5 (mb g:Nat) (w:World):Calls Tryz.prog 31 #[dY mb,.func (.func g) #[] #[]] w fun e w'=>∃u,e=.returned u∧Below w.heap.size w w':=by
 unfold dY
 go_enter Tryz.func31,Tryz.ntmps31
 go_wp2
 go_ret
 exact⟨_,rfl,aB (aB bR _) _⟩
theorem cI {B:Nat} {w w1:World} (h:Below B w w1) {a:Addr} (ha:a.block<B):w1.cell? a=w.cell? a:=h.cell ha
structure Cmd where
 k:Int
 s:ByteArray
 t:ByteArray
 n0:Int
 n1:Int
 n2:Int
 n3:Int
 n4:Int
def Cmd.val (c:Cmd):Value:=.agg #[.int .i64 c.k,.string c.s,.string c.t,.int .i64 c.n0,.int .i64 c.n1,.int .i64 c.n2,.int .i64 c.n3,.int .i64 c.n4]
def Cmd.arr (c:Cmd):Array Value:=#[.int .i64 c.k,.string c.s,.string c.t,.int .i64 c.n0,.int .i64 c.n1,.int .i64 c.n2,.int .i64 c.n3,.int .i64 c.n4]
end Go.Proofs.YtlibhkkckgkkkaaGreatDoor.Tf
