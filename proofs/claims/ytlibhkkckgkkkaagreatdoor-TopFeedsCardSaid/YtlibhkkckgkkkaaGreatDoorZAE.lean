/- Part of the proof of TopFeeds: Mem. -/
import Derived.Deep.AppendLies
import Derived.Deep.Draws
import Derived.Test.YtlibhkkckgkkkaaGreatDoorProg
import Derived.WalkKit
namespace Go.Proofs.YtlibhkkckgkkkaaGreatDoor.Mem
open Go.RowKit
structure En (α:Type) where
 enc:α→List Value
 sz:Nat
 pos:0<sz
 len:∀x,(enc x).length=sz
 one:∀x u,u∈enc x→u.oneCell'=true
section lists
variable {α:Type} (d:En α)
def En.cs (xs:List α):List Value:=xs.flatMap d.enc
theorem En.cs_append (xs ys:List α):d.cs (xs++ys)=d.cs xs++d.cs ys:=by simp[En.cs]
theorem En.cs_cons (x:α) (xs:List α):d.cs (x::xs)=d.enc x++d.cs xs:=by simp[En.cs]
theorem En.cs_length (xs:List α):(d.cs xs).length=xs.length * d.sz:=by
 induction xs with
 |nil=>simp[En.cs]
 |cons x xs ih=>rw[d.cs_cons,List.length_append,ih,d.len,List.length_cons,Nat.add_mul];omega
theorem En.cs_mem (xs:List α):∀u∈d.cs xs,u.oneCell'=true:=fun u hu=>by
 obtain⟨x,_,h⟩:=List.mem_flatMap.1 hu
 exact d.one x u h
theorem En.cs_get (xs:List α) (k:Nat) (x:α) (h:xs[k]?=some x) (j:Nat) (hj:j<d.sz):(d.cs xs)[k * d.sz+j]?=(d.enc x)[j]?:=by
 induction xs generalizing k with
 |nil=>simp at h
 |cons y xs ih=>
  rw[d.cs_cons]
  cases k with
  |zero=>
   simp at h;subst h
   rw[Nat.zero_mul,Nat.zero_add,List.getElem?_append_left (by rw[d.len];exact hj)]
  |succ k=>
   rw[List.getElem?_append_right (by rw[d.len,Nat.add_mul];omega),d.len,show(k+1) * d.sz+j-d.sz=k * d.sz+j by rw[Nat.add_mul];omega]
   exact ih k (by simpa using h)
theorem En.split (i:Nat):∃k j,i=k * d.sz+j∧j<d.sz:=
 ⟨i / d.sz,i % d.sz,by rw[Nat.mul_comm];exact(Nat.div_add_mod i d.sz).symm,Nat.mod_lt _ d.pos⟩
theorem En.cs_ext (L:List Value) (xs:List α) (hl:L.length=xs.length * d.sz) (h:∀k x,xs[k]?=some x→∀j,j<d.sz→L[k * d.sz+j]?=(d.enc x)[j]?):L=d.cs xs:=by
 apply List.ext_getElem?
 intro i
 obtain⟨k,j,rfl,hj⟩:=d.split i
 by_cases hk:k<xs.length
 ·have hx:=List.getElem?_eq_getElem hk
  rw[h k _ hx j hj,d.cs_get xs k _ hx j hj]
 ·have:xs.length * d.sz≤k * d.sz:=Nat.mul_le_mul_right _ (by omega)
  rw[List.getElem?_eq_none (by omega),List.getElem?_eq_none (by rw[d.cs_length];omega)]
end lists
structure En.At {α:Type} (d:En α) (w:World) (A:Option Addr) (c:Nat) (xs:List α):Prop where
 le:xs.length≤c
 max:c≤9223372036854775807
 nil:A=none→c=0
 cell:0<xs.length→∃b off,A=some ⟨b,off,none⟩∧b<w.heap.size∧∀i,i<xs.length * d.sz→w.cell? ⟨b,off+i,none⟩=(d.cs xs)[i]?
def En.Own {α:Type} (d:En α) (e:TypeId) (w:World) (base:Nat) (A:Option Addr) (c:Nat) (xs:List α):Prop:=
 w.ownsRow base e d.sz (.slice A xs.length c) xs.length (d.cs xs)
section
variable {α:Type} {d:En α} {w w':World} {A:Option Addr} {c base:Nat} {e:TypeId} {xs:List α}
theorem En.At.none_:d.At w none 0 []:=⟨Nat.le_refl _,by omega,fun _=>rfl,fun h=>absurd h (Nat.lt_irrefl 0)⟩
theorem En.At.below (h:d.At w A c xs) (hb:Below w.heap.size w w'):d.At w' A c xs:=
 ⟨h.le,h.max,h.nil,fun hn=>by
   obtain⟨b,off,rfl,hlt,hc⟩:=h.cell hn
   exact⟨b,off,rfl,Nat.lt_of_lt_of_le hlt hb.size,fun i hi=>(hb.cell (p:=⟨b,off+i,none⟩) hlt).trans (hc i hi)⟩⟩
theorem En.At.drewN (h:d.At w A c xs) (n:Nat):d.At (w.drewN n) A c xs:=⟨h.le,h.max,h.nil,h.cell⟩
theorem En.At.get (h:d.At w A c xs) (k:Nat) (x:α) (hx:xs[k]?=some x):∃b off,A=some ⟨b,off,none⟩∧b<w.heap.size∧∀j,j<d.sz→w.cell? ⟨b,off+(k * d.sz+j),none⟩=(d.enc x)[j]?:=by
 have hk:=(List.getElem?_eq_some_iff.1 hx).1
 obtain⟨b,off,rfl,hlt,hc⟩:=h.cell (by omega)
 refine⟨b,off,rfl,hlt,fun j hj=>?_⟩
 have hi:k * d.sz+j<xs.length * d.sz:=by
  have:(k+1) * d.sz≤xs.length * d.sz:=Nat.mul_le_mul_right _ hk
  rw[Nat.add_mul] at this
  omega
 rw[hc _ hi,d.cs_get xs k x hx j hj]
theorem En.cs_take (d:En α) (xs:List α) (k:Nat) (i:Nat) (hi:i<k * d.sz):(d.cs (xs.take k))[i]?=(d.cs xs)[i]?:=by
 obtain⟨q,j,rfl,hj⟩:=d.split i
 have hq:q<k:=by
  rcases Nat.lt_or_ge q k with h|h
  ·exact h
  ·have:=Nat.mul_le_mul_right d.sz h;omega
 by_cases hx:q<xs.length
 ·have h1:=List.getElem?_eq_getElem hx
  rw[d.cs_get xs q _ h1 j hj,d.cs_get (xs.take k) q xs[q] (by rw[List.getElem?_take,if_pos hq,h1]) j hj]
 ·have h2:=Nat.mul_le_mul_right d.sz (Nat.le_of_not_lt hx)
  rw[List.take_of_length_le (by omega)]
theorem En.cs_drop (d:En α) (xs:List α) (k:Nat):d.cs (xs.drop k)=(d.cs xs).drop (k * d.sz):=by
 induction xs generalizing k with
 |nil=>simp[En.cs]
 |cons x xs ih=>
  cases k with
  |zero=>simp
  |succ k=>
   rw[List.drop_succ_cons,ih k,d.cs_cons,List.drop_append,d.len,show(k+1) * d.sz-d.sz=k * d.sz by rw[Nat.add_mul];omega,List.drop_of_length_le (l:=d.enc x) (by rw[d.len,Nat.add_mul];omega),List.nil_append]
theorem En.At.take (h:d.At w A c xs) (k:Nat) (hk:k≤xs.length):d.At w A c (xs.take k):=by
 refine⟨by rw[List.length_take];exact Nat.le_trans (Nat.min_le_right _ _) h.le,h.max,h.nil,fun h0=>?_⟩
 have hl:(xs.take k).length=k:=by rw[List.length_take,Nat.min_eq_left hk]
 obtain⟨b,off,hA,hlt,hc⟩:=h.cell (by omega)
 refine⟨b,off,hA,hlt,fun i hi=>?_⟩
 rw[hl] at hi
 rw[hc i (Nat.lt_of_lt_of_le hi (Nat.mul_le_mul_right _ hk)),d.cs_take xs k i hi]
theorem En.At.drop {b off:Nat} (h:d.At w (some ⟨b,off,none⟩) c xs) (k:Nat) (hk:k≤xs.length) (A':Option Addr) (hA:A'=some (if c=k then⟨b,off,none⟩ else⟨b,off+k * d.sz,none⟩)):d.At w A' (c-k) (xs.drop k):=by
 have hle:=h.le
 refine⟨by rw[List.length_drop];omega,by have:=h.max;omega,(fun e=>by subst e;cases hA),fun h0=>?_⟩
 rw[List.length_drop] at h0
 obtain⟨b',off',hA',hlt,hc⟩:=h.cell (by omega)
 injection hA' with hA'
 injection hA' with e1 e2
 subst e1
 subst e2
 rw[if_neg (by omega)] at hA
 refine⟨b,off+k * d.sz,hA,hlt,fun i hi=>?_⟩
 rw[List.length_drop,Nat.sub_mul] at hi
 rw[Nat.add_assoc,hc _ (by omega),d.cs_drop,List.getElem?_drop]
theorem En.Own.none_ (w:World) (base:Nat) (e:TypeId):d.Own e w base none 0 []:=World.ownsRow_nil _ _ _ _
theorem En.Own.drewN (h:d.Own e w base A c xs) (n:Nat):d.Own e (w.drewN n) base A c xs:=h
theorem En.Own.form (h:d.Own e w base A c xs):(A=none∧c=0∧xs=[])∨∃g,A=some ⟨g,0,none⟩∧base≤g∧g<w.heap.size∧xs.length≤c∧c≤9223372036854775807:=by
 rcases h.2 with⟨hv,h0⟩|⟨g,cap,cur,hv,hb,hg,hn,hm,_⟩
 ·injection hv with h1 h2 h3
  exact .inl ⟨h1,h3,List.eq_nil_of_length_eq_zero h0⟩
 ·injection hv with h1 h2 h3
  subst h3
  refine .inr ⟨g,h1,hb,(Array.getElem?_eq_some_iff.1 hg).1,hn,?_⟩
  unfold maxLen at hm;omega
theorem En.Own.at_ (h:d.Own e w base A c xs):d.At w A c xs:=by
 rcases h.form with⟨rfl,rfl,rfl⟩|⟨g,rfl,hb,hg,hn,hm⟩
 ·exact En.At.none_
 ·refine⟨hn,hm,(fun k=>by cases k),fun h0=>⟨g,0,rfl,hg,fun i hi=>?_⟩⟩
  rw[Nat.zero_add]
  exact World.ownsRow.cellAt h i hi
theorem En.Own.below (h:d.Own e w base A c xs) (hb:Below w.heap.size w w'):d.Own e w' base A c xs:=
 h.kept (row:=none) ⟨hb.os,hb.tape,hb.output,hb.size,fun i hi _=>hb.block i hi⟩ (by cases(Value.slice A xs.length c).ownBlock <;> simp)
theorem En.Own.lower {base':Nat} (h:d.Own e w base A c xs) (hb:base'≤base):d.Own e w base' A c xs:=by
 refine⟨h.1,?_⟩
 rcases h.2 with h0|⟨g,cap,cur,hv,hg,rest⟩
 ·exact .inl h0
 ·exact .inr ⟨g,cap,cur,hv,Nat.le_trans hb hg,rest⟩
theorem En.Own.row (h:d.Own e w base A c xs):∀k,(Value.slice A xs.length c).ownBlock=some k→base≤k∧k<w.heap.size:=World.ownsRow.lt h
theorem En.Own.kept {row:Option Nat} (h:d.Own e w base A c xs) (hg:w.grownBy w' row) (hne:(Value.slice A xs.length c).ownBlock=none∨(Value.slice A xs.length c).ownBlock≠row):d.Own e w' base A c xs:=World.ownsRow.kept h hg hne
theorem En.Own.free {b o:Nat} (h:d.Own e w base (some ⟨b,o,none⟩) c xs) (j:Nat):w.frozen? ⟨b,j,none⟩=false:=by
 rcases h.form with⟨hA,_⟩|⟨g,hA,_⟩
 ·cases hA
 ·injection hA with hA
  injection hA with h1 h2
  subst h1
  subst h2
  exact World.ownsRow.frozenAt h j
end
section append
variable {α:Type} (d:En α) {P:Program} (w:World)
theorem wA (base:Nat) (t ty e:TypeId) (i:TypeInfo) (ht:P.underlying t=some (.slice e)) (hi:P.info? e=some i) (v:Value) (n:Nat) (size:Nat) (xs:List Value) (hown:w.ownsRow base e size v n xs):
 (Builtin.append_ #[t,t] ty #[v,.slice none 0 0]).run P w=.ok v w:=run_append_owned_none w base t ty e i size ht hi v n xs hown
theorem aLc (base:Nat) (t ty e:TypeId) (i:TypeInfo) (z:Value) (bytes:Nat) (ht:P.underlying t=some (.slice e)) (hi:P.info? e=some i) (hz:i.zero=some z)
 (hsize:i.size=d.sz) (hby:i.bytes=bytes) (hzs:z.cells.size=d.sz)
 (A:Option Addr) (c:Nat) (xs:List α) (hown:d.Own e w base A c xs) (B:Option Addr) (k:Nat) (ys:List α) (hat:d.At w B k ys)
 (h63:xs.length+ys.length≤9223372036854775807) (hbytes:(xs.length+ys.length) * bytes≤140737488355328) (hbase:base≤w.heap.size):
 ∃A' c' w',(Builtin.append_ #[t,t] ty #[.slice A xs.length c,.slice B ys.length k]).run P w=.ok (.slice A' (xs++ys).length c') w'∧d.Own e w' base A' c' (xs++ys)∧w.grownBy w' (Value.slice A xs.length c).ownBlock∧
  ((Value.slice A' (xs++ys).length c').ownBlock=(Value.slice A xs.length c).ownBlock∨(Value.slice A' (xs++ys).length c').ownBlock=some w.heap.size):=by
 cases B with
 |none=>
  have hk:=hat.nil rfl
  subst hk
  have hy:=List.eq_nil_of_length_eq_zero (Nat.le_zero.1 hat.le)
  subst hy
  rw[List.append_nil]
  exact⟨A,c,w,wA w base t ty e i ht hi _ _ d.sz _ hown,hown,World.grownBy.refl w _,.inl rfl⟩
 |some ad=>
  have hcells:∀j u,(d.cs ys)[j]?=some u→w.cell? (ad.add j)=some u:=by
   intro j u hu
   have hj:j<ys.length * d.sz:=by rw[←d.cs_length];exact(List.getElem?_eq_some_iff.1 hu).1
   have h0:0<ys.length:=by
    rcases Nat.eq_zero_or_pos ys.length with h|h
    ·rw[h,Nat.zero_mul] at hj;omega
    ·exact h
   obtain⟨b,off,hA,_,hc⟩:=hat.cell h0
   injection hA with hA
   subst hA
   rw[Addr.add_lit,hc j hj]
   exact hu
  obtain⟨v',w',hrun,h2,h3,_,h5⟩:=run_append_own_at (P:=P) w base t ty e i z d.sz bytes ht hi hz hsize hby hzs d.pos _ _ _ hown ad ys.length k (d.cs ys) (d.cs_length ys) hcells (d.cs_mem ys) (by unfold maxLen;omega) hbytes hbase
  obtain⟨A',c',hv⟩:∃A' c',v'=.slice A' (xs.length+ys.length) c':=by
   rcases h2.2 with⟨hv,h0⟩|⟨g,cap,cur,hv,_⟩
   ·exact⟨none,0,by rw[hv,h0]⟩
   ·exact⟨_,cap,hv⟩
  subst hv
  rw[←List.length_append] at hrun h2 h5
  refine⟨A',c',w',hrun,?_,h3,h5⟩
  unfold En.Own
  rw[d.cs_append]
  exact h2
theorem aFk {o:Oper} {a:Act} {K:Act→World→Prop} {Q:Exit→Act→World→Prop} (s x:Operand) (t:TypeId)
 (ho:o.op=.call {callee:=.builtin .append,args:=#[s,x],argTypes:=#[t,t]})
 (base:Nat) (e:TypeId) (i:TypeInfo) (z:Value) (bytes:Nat) (ht:P.underlying t=some (.slice e)) (hi:P.info? e=some i) (hz:i.zero=some z)
 (hsize:i.size=d.sz) (hby:i.bytes=bytes) (hzs:z.cells.size=d.sz)
 (A:Option Addr) (c n:Nat) (xs:List α) (hs:a.eval s=.slice A n c) (hn:n=xs.length) (hown:d.Own e w base A c xs) (B:Option Addr) (k m:Nat) (ys:List α) (hx:a.eval x=.slice B m k) (hm:m=ys.length) (hat:d.At w B k ys)
 (h63:xs.length+ys.length≤9223372036854775807) (hbytes:(xs.length+ys.length) * bytes≤140737488355328) (hbase:base≤w.heap.size)
 (h:∀A' c' w',d.Own e w' base A' c' (xs++ys)→w.grownBy w' (Value.slice A xs.length c).ownBlock→
   ((Value.slice A' (xs++ys).length c').ownBlock=(Value.slice A xs.length c).ownBlock∨(Value.slice A' (xs++ys).length c').ownBlock=some w.heap.size)→K (a.put o.dst (.slice A' (xs++ys).length c')) w'):o.wp P a w K Q:=by
 subst hn
 subst hm
 obtain⟨A',c',w',hr,h2,h3,h4⟩:=aLc (P:=P) d w base t o.type e i z bytes ht hi hz hsize hby hzs A c xs hown B k ys hat h63 hbytes hbase
 unfold Oper.wp execOp
 simp only[ho,resolve,invoke,builtin,Sem.run_bind,Sem.run_pure,Result.andThen_ok,List.map_toArray,List.map_cons,List.map_nil,hs,hx,hr]
 exact h A' c' w' h2 h3 h4
theorem aV {ops:Array Oper} {rest:List Oper} {o:Oper} {a:Act} {Q:Exit→Act→World→Prop} (hgd:o.guard=none) (s x:Operand) (t:TypeId)
 (ho:o.op=.call {callee:=.builtin .append,args:=#[s,x],argTypes:=#[t,t]})
 (base:Nat) (e:TypeId) (i:TypeInfo) (z:Value) (bytes:Nat) (ht:P.underlying t=some (.slice e)) (hi:P.info? e=some i) (hz:i.zero=some z)
 (hsize:i.size=d.sz) (hby:i.bytes=bytes) (hzs:z.cells.size=d.sz)
 (A:Option Addr) (c n:Nat) (xs:List α) (hs:a.eval s=.slice A n c) (hn:n=xs.length) (hown:d.Own e w base A c xs) (B:Option Addr) (k m:Nat) (ys:List α) (hx:a.eval x=.slice B m k) (hm:m=ys.length) (hat:d.At w B k ys)
 (h63:xs.length+ys.length≤9223372036854775807) (hbytes:(xs.length+ys.length) * bytes≤140737488355328) (hbase:base≤w.heap.size)
 (h:∀A' c' w',d.Own e w' base A' c' (xs++ys)→w.grownBy w' (Value.slice A xs.length c).ownBlock→
   ((Value.slice A' (xs++ys).length c').ownBlock=(Value.slice A xs.length c).ownBlock∨(Value.slice A' (xs++ys).length c').ownBlock=some w.heap.size)→wpList P ops Q rest (a.put o.dst (.slice A' (xs++ys).length c')) w'):wpList P ops Q (o::rest) a w:=
 wpList_plain hgd fun _ hK=>aFk d w s x t ho base e i z bytes ht hi hz hsize hby hzs A c n xs hs hn hown B k m ys hx hm hat h63 hbytes hbase fun A' c' w' h2 h3 h4=>hK _ _ (h A' c' w' h2 h3 h4)
theorem cO {ops:Array Oper} {o:Oper} {a:Act} {K:Act→World→Prop} {Q:Exit→Act→World→Prop} {E:Prop} (hgd:o.guard=none) (s x:Operand) (t:TypeId)
 (ho:o.op=.call {callee:=.builtin .append,args:=#[s,x],argTypes:=#[t,t]})
 (base:Nat) (e:TypeId) (i:TypeInfo) (z:Value) (bytes:Nat) (ht:P.underlying t=some (.slice e)) (hi:P.info? e=some i) (hz:i.zero=some z)
 (hsize:i.size=d.sz) (hby:i.bytes=bytes) (hzs:z.cells.size=d.sz)
 (A:Option Addr) (c n:Nat) (xs:List α) (hs:a.eval s=.slice A n c) (hn:n=xs.length) (hown:d.Own e w base A c xs) (B:Option Addr) (k m:Nat) (ys:List α) (hx:a.eval x=.slice B m k) (hm:m=ys.length) (hat:d.At w B k ys)
 (h63:xs.length+ys.length≤9223372036854775807) (hbytes:(xs.length+ys.length) * bytes≤140737488355328) (hbase:base≤w.heap.size)
 (h:∀A' c' w',d.Own e w' base A' c' (xs++ys)→w.grownBy w' (Value.slice A xs.length c).ownBlock→
   ((Value.slice A' (xs++ys).length c').ownBlock=(Value.slice A xs.length c).ownBlock∨(Value.slice A' (xs++ys).length c').ownBlock=some w.heap.size)→K (a.put o.dst (.slice A' (xs++ys).length c')) w'):
 if Region.wanted o (yielded ops a.tmps)=true then Oper.wp P o a w K Q else E:=by
 have hw:Region.wanted o (yielded ops a.tmps)=true:=by simp[Region.wanted,hgd]
 rw[if_pos hw]
 exact aFk d w s x t ho base e i z bytes ht hi hz hsize hby hzs A c n xs hs hn hown B k m ys hx hm hat h63 hbytes hbase h
theorem nP {ops:Array Oper} {rest:List Oper} {o:Oper} {a:Act} {Q:Exit→Act→World→Prop} (hgd:o.guard=none) (s x:Operand) (t tn:TypeId)
 (ho:o.op=.call {callee:=.builtin .append,args:=#[s,x],argTypes:=#[t,tn]})
 (u v r:Value) (w':World) (hs:a.eval s=u) (hx:a.eval x=v) (hr:∀ty,(Builtin.append_ #[t,tn] ty #[u,v]).run P w=.ok r w') (h:wpList P ops Q rest (a.put o.dst r) w'):wpList P ops Q (o::rest) a w:=
 wpList_plain hgd fun _ hK=>by
  unfold Oper.wp execOp
  simp only[ho,resolve,invoke,builtin,Sem.run_bind,Sem.run_pure,Result.andThen_ok,List.map_toArray,List.map_cons,List.map_nil,hs,hx,hr]
  exact hK _ _ h
end append
theorem lB {α:Type} {d:En α} {e:TypeId} {w:World} {base b o c:Nat} {xs:List α} (h:d.Own e w base (some ⟨b,o,none⟩) c xs):o=0∧base≤b∧b<w.heap.size:=by
 rcases h.form with⟨hA,_⟩|⟨g,hA,hb,hl,_⟩
 ·cases hA
 ·injection hA with hA
  injection hA with h1 h2
  exact⟨h2,by omega,by omega⟩
theorem En.Own.lit {α:Type} (d:En α) (w:World) (base:Nat) (e:TypeId) (cs:Array Value) (xs:List α) (hb:base≤w.heap.size) (hm:xs.length≤9223372036854775807) (hc:cs.toList=d.cs xs):
 d.Own e (w.alloc (.cells cs e)) base (some ⟨w.heap.size,0,none⟩) xs.length xs:=by
 have hs:cs.size=xs.length * d.sz:=by rw[←d.cs_length,←hc,Array.length_toList]
 have h:=World.ownsRow_lit (base:=base) (e:=e) (size:=d.sz) w cs xs.length hb (by unfold maxLen;omega) hs
 rw[hc] at h
 exact h
theorem aB {w W:World} (h:Below w.heap.size w W) (o:Obj):Below w.heap.size w (W.alloc o):=h.alloc h.size o
theorem aI {B:Nat} {w W:World} (h:Below B w W):Below B w W.drew:=⟨h.os,h.tape,h.output,h.size,h.block⟩
theorem aL {B:Nat} {w W:World} (h:Below B w W) (n:Nat):Below B w (W.drewN n):=⟨h.os,h.tape,h.output,h.size,h.block⟩
theorem bF {B:Nat} {w w1 w2:World} (h:Below B w w1) (hB:B≤w1.heap.size) (k:Below w1.heap.size w1 w2):Below B w w2:=
 h.trans ⟨k.os,k.tape,k.output,k.size,fun i hi=>k.block i (Nat.lt_of_lt_of_le hi hB)⟩
theorem aD {w w1 w2:World} (h:Below w.heap.size w w1) (k:Below w1.heap.size w1 w2):Below w.heap.size w w2:=bF h h.size k
theorem bV {w w1 w2:World} {v:Value} (h:Below w.heap.size w w1) (hg:w1.grownBy w2 v.ownBlock) (hr:∀k,v.ownBlock=some k→w.heap.size≤k):Below w.heap.size w w2:=h.grown hg h.size hr
theorem aC {w w1:World} (h:Below w.heap.size w w1) {a:Addr} {v:Value} (hc:w.cell? a=some v):w1.cell? a=some v:=(h.cell (World.block_lt_of_cell? w a hc)).trans hc
theorem aRg {W w1:World} {a b c:Addr} {x y z:Value} (hb:Below W.heap.size W w1) (h:W.cell? a=some x∧W.cell? b=some y∧W.cell? c=some z):w1.cell? a=some x∧w1.cell? b=some y∧w1.cell? c=some z:=
 ⟨aC hb h.1,aC hb h.2.1,aC hb h.2.2⟩
theorem aP1 {W w1:World} {row:Option Nat} {a b c:Addr} {x y z:Value} (hg:W.grownBy w1 row) (ha:some a.block≠row) (hb:some b.block≠row) (hc:some c.block≠row) (h:W.cell? a=some x∧W.cell? b=some y∧W.cell? c=some z):w1.cell? a=some x∧w1.cell? b=some y∧w1.cell? c=some z:=
 ⟨hg.cell h.1 ha,hg.cell h.2.1 hb,hg.cell h.2.2 hc⟩
theorem aS (w:World) (cs:Array Value) (t:TypeId) (j:Nat):(w.alloc (.cells cs t)).cell? ⟨w.heap.size,j,none⟩=cs[j]?:=cell_of_row _ _ j _ t (0,0) (heap_alloc_new w _)
theorem rT {W w1:World} (hb:Below W.heap.size W w1):(∀b o,b<W.heap.size→w1.cell? ⟨b,o,none⟩=W.cell? ⟨b,o,none⟩)∧(∀b o,b<W.heap.size→w1.frozen? ⟨b,o,none⟩=W.frozen? ⟨b,o,none⟩)∧W.heap.size≤w1.heap.size:=
 ⟨fun b o h=>hb.cell (p:=⟨b,o,none⟩) h,fun b o h=>hb.frozen (p:=⟨b,o,none⟩) h,hb.size⟩
theorem En.Own.far {α:Type} {d:En α} {e:TypeId} {w:World} {base:Nat} {A:Option Addr} {c:Nat} {xs:List α} (h:d.Own e w base A c xs) {p:Addr} (hp:p.block<base) (u:Value):d.Own e (w.setCell p u) base A c xs:=ownsRow_setCell_below h hp u
theorem aH {B:Nat} {a w:World} (h:Below B a w) {p:Addr} (hp:B≤p.block) (u:Value):Below B a (w.setCell p u):=h.setCell hp u
theorem slc {A:Option Addr} {n m c:Nat} (h:n=m):Value.slice A n c=Value.slice A m c:=by rw[h]
theorem kD {k:IntKind} {r r':Int} (h:r=r'):Ending.returned (.int k r)=Ending.returned (.int k r'):=by rw[h]
theorem wfB {a:Int} (h:(Lit.int .i64 a).wf=true):-9223372036854775808≤a∧a≤9223372036854775807:=by
 simpa[Lit.wf,IntKind.min,IntKind.max,IntKind.signed,IntKind.bits] using h
theorem w64 {x:Int} (h:-9223372036854775808≤x) (h':x≤9223372036854775807):wrap64 x=x:=by unfold wrap64;omega
theorem cQ {w:World} {a:Addr} {v:Value} (h:w.cell? a=some v:=by(first|assumption|(go_simp;done)|exact(Hid.out (by assumption)))):w.cell? a=some v:=h
theorem Hd {p:Prop} (h:p):Hid p:=h
theorem gLt {α:Type _} {xs:Array α} {i:Nat} {x:α} (h:xs[i]?=some x):i<xs.size:=(Array.getElem?_eq_some_iff.1 h).1
theorem blw {n:Nat} {w W:World} (h:Below n w W:=by(repeat(first|(refine Hid.out ?_;assumption)|exact Below.refl _ _|refine aH ?_ (by first|exact Nat.le_refl _|omega|(dsimp only;omega)) _|refine aB ?_ _|refine aI ?_|refine aL ?_ _))):Below n w W:=h
theorem bst (w:World) {u W:World} (k:Below u.heap.size u W) (h:Below w.heap.size w u:=by exact blw):Hid (Below w.heap.size w W):=aD h k
theorem rB (w:World) {P:Program} {f:Nat} {vs:Array Value} {u:World} {x:Ending} {Q:Ending→World→Prop} (k:Calls P f vs u fun e W=>e=x∧Below u.heap.size u W) (q:∀W,Hid (Below w.heap.size w W)→Q x W) (h:Below w.heap.size w u:=by exact blw):Calls P f vs u Q:=k.mono fun _ W ⟨he,hb⟩=>he▸q W (aD h hb)
theorem rC (w:World) {P:Program} {f:Nat} {vs:Array Value} {u:World} {x:Ending} {Q:Ending→World→Prop} (k:Calls P f vs u fun e W=>e=x∧Below u.heap.size u W) (q:∀W,Below u.heap.size u W→Hid (Below w.heap.size w W)→Q x W) (h:Below w.heap.size w u:=by exact blw):Calls P f vs u Q:=k.mono fun _ W ⟨he,hb⟩=>he▸q W hb (aD h hb)
theorem bcl {w W:World} (hb:Below w.heap.size w W) (b i:Nat) (v:Value) (h:w.cell? ⟨b,i,none⟩=some v:=by first|assumption|(go_simp;done)):W.cell? ⟨b,i,none⟩=some v:=aC hb h
theorem bR {n:Nat} {w:World}:Below n w w:=Below.refl _ _
theorem aN (w:World) (o:Obj):(w.alloc o).heap[w.heap.size]?=some o:=heap_alloc_new w o
theorem fH {w:World} {b:Nat} {cs:Array Value} {t:TypeId} (h:w.heap[b]?=some (.cells cs t (0,0))) (j:Nat):w.frozen? ⟨b,j,none⟩=false:=by simp[World.frozen?,h]
theorem lA {α:Type _} {a b:List α}:(a++b).length=a.length+b.length:=List.length_append
theorem nR {n:Nat}:n≤n:=Nat.le_refl n
theorem bN {α:Type _} [BEq α] [LawfulBEq α] {a b:α} (h:a≠b):(a==b)=false:=beq_eq_false_iff_ne.2 h
theorem bL (w:World) (a:Addr) {u:Value} (h:w.cell? a=some u):a.block<w.heap.size:=World.block_lt_of_cell? w a h
theorem gE {α:Type _} {l:List α} {i:Nat} (h:i<l.length):l[i]?=some l[i]:=List.getElem?_eq_getElem h
theorem gs:(∀{α:Type} {xs:List α} {i:Nat} (h:i<xs.toArray.size),xs.toArray[i]=xs[i])∧(∀{α:Type} (a:α) (l:List α) (h:0<(a::l).length),(a::l)[0]=a)∧(∀{α:Type} (a:α) (l:List α) (i:Nat) (h:i+1<(a::l).length),(a::l)[i+1]=l[i]'(Nat.lt_of_succ_lt_succ h))∧(∀{α:Type} (l:List α) (i:Nat) (a:α),l.toArray.setIfInBounds i a=(l.set i a).toArray)∧(∀{α:Type} {x:α} {xs:List α} {a:α},(x::xs).set 0 a=a::xs)∧(∀{α:Type} {x:α} {xs:List α} {i:Nat} {a:α},(x::xs).set (i+1) a=x::xs.set i a):=⟨List.getElem_toArray,List.getElem_cons_zero,List.getElem_cons_succ,List.setIfInBounds_toArray,List.set_cons_zero,List.set_cons_succ⟩
theorem cV {w:World} {b:Nat} {cs:Array Value} {t:TypeId} (h:w.heap[b]?=some (.cells cs t (0,0))) (i:Nat) (v:Value) (e:cs[i]?=some v:=by exact rfl):w.cell? ⟨b,i,none⟩=some v:=by rw[←e];simp[World.cell?,h]
theorem fZ {w:World} {b:Nat} {cs:Array Value} {t:TypeId} (h:w.heap[b]?=some (.cells cs t (0,0))):∀o,w.frozen? ⟨b,o,none⟩=false:=fun o=>by simp[World.frozen?,h]
theorem kb2 {w W:World} (hb:Below w.heap.size w W) (b:Nat) (v0 v1:Value) (h0:w.cell? ⟨b,0,none⟩=some v0:=by exact cQ) (h1:w.cell? ⟨b,1,none⟩=some v1:=by exact cQ) (hf:∀o,w.frozen? ⟨b,o,none⟩=false:=by intro o;(first|(go_simp;done)|assumption|apply_assumption (exfalso:=false))):(W.cell? ⟨b,0,none⟩=some v0∧W.cell? ⟨b,1,none⟩=some v1)∧b<W.heap.size∧∀o,W.frozen? ⟨b,o,none⟩=false:=⟨⟨aC hb h0,aC hb h1⟩,World.block_lt_of_cell? W ⟨b,0,none⟩ (aC hb h0),fun o=>(hb.frozen (p:=⟨b,o,none⟩) (World.block_lt_of_cell? w ⟨b,0,none⟩ h0)).trans (hf o)⟩
theorem kb3 {w W:World} (hb:Below w.heap.size w W) (b:Nat) (v0 v1 v2:Value) (h0:w.cell? ⟨b,0,none⟩=some v0:=by exact cQ) (h1:w.cell? ⟨b,1,none⟩=some v1:=by exact cQ) (h2:w.cell? ⟨b,2,none⟩=some v2:=by exact cQ) (hf:∀o,w.frozen? ⟨b,o,none⟩=false:=by intro o;(first|(go_simp;done)|assumption|apply_assumption (exfalso:=false))):(W.cell? ⟨b,0,none⟩=some v0∧W.cell? ⟨b,1,none⟩=some v1∧W.cell? ⟨b,2,none⟩=some v2)∧b<W.heap.size∧∀o,W.frozen? ⟨b,o,none⟩=false:=⟨⟨aC hb h0,aC hb h1,aC hb h2⟩,World.block_lt_of_cell? W ⟨b,0,none⟩ (aC hb h0),fun o=>(hb.frozen (p:=⟨b,o,none⟩) (World.block_lt_of_cell? w ⟨b,0,none⟩ h0)).trans (hf o)⟩
theorem kn4 {w W:World} (hb:Below w.heap.size w W) (b:Nat) (v0 v1 v2 v3:Value) (h0:w.cell? ⟨b,0,none⟩=some v0:=by exact cQ) (h1:w.cell? ⟨b,1,none⟩=some v1:=by exact cQ) (h2:w.cell? ⟨b,2,none⟩=some v2:=by exact cQ) (h3:w.cell? ⟨b,3,none⟩=some v3:=by exact cQ):(W.cell? ⟨b,0,none⟩=some v0∧W.cell? ⟨b,1,none⟩=some v1∧W.cell? ⟨b,2,none⟩=some v2∧W.cell? ⟨b,3,none⟩=some v3)∧b<W.heap.size:=⟨⟨aC hb h0,aC hb h1,aC hb h2,aC hb h3⟩,World.block_lt_of_cell? W ⟨b,0,none⟩ (aC hb h0)⟩
theorem kb4 {w W:World} (hb:Below w.heap.size w W) (b:Nat) (v0 v1 v2 v3:Value) (h0:w.cell? ⟨b,0,none⟩=some v0:=by exact cQ) (h1:w.cell? ⟨b,1,none⟩=some v1:=by exact cQ) (h2:w.cell? ⟨b,2,none⟩=some v2:=by exact cQ) (h3:w.cell? ⟨b,3,none⟩=some v3:=by exact cQ) (hf:∀o,w.frozen? ⟨b,o,none⟩=false:=by intro o;(first|(go_simp;done)|assumption|apply_assumption (exfalso:=false))):(W.cell? ⟨b,0,none⟩=some v0∧W.cell? ⟨b,1,none⟩=some v1∧W.cell? ⟨b,2,none⟩=some v2∧W.cell? ⟨b,3,none⟩=some v3)∧b<W.heap.size∧∀o,W.frozen? ⟨b,o,none⟩=false:=⟨⟨aC hb h0,aC hb h1,aC hb h2,aC hb h3⟩,World.block_lt_of_cell? W ⟨b,0,none⟩ (aC hb h0),fun o=>(hb.frozen (p:=⟨b,o,none⟩) (World.block_lt_of_cell? w ⟨b,0,none⟩ h0)).trans (hf o)⟩
theorem kn6 {w W:World} (hb:Below w.heap.size w W) (b:Nat) (v0 v1 v2 v3 v4 v5:Value) (h0:w.cell? ⟨b,0,none⟩=some v0:=by exact cQ) (h1:w.cell? ⟨b,1,none⟩=some v1:=by exact cQ) (h2:w.cell? ⟨b,2,none⟩=some v2:=by exact cQ) (h3:w.cell? ⟨b,3,none⟩=some v3:=by exact cQ) (h4:w.cell? ⟨b,4,none⟩=some v4:=by exact cQ) (h5:w.cell? ⟨b,5,none⟩=some v5:=by exact cQ):(W.cell? ⟨b,0,none⟩=some v0∧W.cell? ⟨b,1,none⟩=some v1∧W.cell? ⟨b,2,none⟩=some v2∧W.cell? ⟨b,3,none⟩=some v3∧W.cell? ⟨b,4,none⟩=some v4∧W.cell? ⟨b,5,none⟩=some v5)∧b<W.heap.size:=⟨⟨aC hb h0,aC hb h1,aC hb h2,aC hb h3,aC hb h4,aC hb h5⟩,World.block_lt_of_cell? W ⟨b,0,none⟩ (aC hb h0)⟩
theorem kb6 {w W:World} (hb:Below w.heap.size w W) (b:Nat) (v0 v1 v2 v3 v4 v5:Value) (h0:w.cell? ⟨b,0,none⟩=some v0:=by exact cQ) (h1:w.cell? ⟨b,1,none⟩=some v1:=by exact cQ) (h2:w.cell? ⟨b,2,none⟩=some v2:=by exact cQ) (h3:w.cell? ⟨b,3,none⟩=some v3:=by exact cQ) (h4:w.cell? ⟨b,4,none⟩=some v4:=by exact cQ) (h5:w.cell? ⟨b,5,none⟩=some v5:=by exact cQ) (hf:∀o,w.frozen? ⟨b,o,none⟩=false:=by intro o;(first|(go_simp;done)|assumption|apply_assumption (exfalso:=false))):(W.cell? ⟨b,0,none⟩=some v0∧W.cell? ⟨b,1,none⟩=some v1∧W.cell? ⟨b,2,none⟩=some v2∧W.cell? ⟨b,3,none⟩=some v3∧W.cell? ⟨b,4,none⟩=some v4∧W.cell? ⟨b,5,none⟩=some v5)∧b<W.heap.size∧∀o,W.frozen? ⟨b,o,none⟩=false:=⟨⟨aC hb h0,aC hb h1,aC hb h2,aC hb h3,aC hb h4,aC hb h5⟩,World.block_lt_of_cell? W ⟨b,0,none⟩ (aC hb h0),fun o=>(hb.frozen (p:=⟨b,o,none⟩) (World.block_lt_of_cell? w ⟨b,0,none⟩ h0)).trans (hf o)⟩
theorem kz1 {w W:World} (hb:Below w.heap.size w W) (b:Nat) (v0:Value) (h0:w.cell? ⟨b,0,none⟩=some v0:=by exact cQ) (hf:w.frozen? ⟨b,0,none⟩=false:=by(first|(go_simp;done)|assumption|apply_assumption (exfalso:=false))):W.cell? ⟨b,0,none⟩=some v0∧b<W.heap.size∧W.frozen? ⟨b,0,none⟩=false:=⟨aC hb h0,World.block_lt_of_cell? W ⟨b,0,none⟩ (aC hb h0),(hb.frozen (p:=⟨b,0,none⟩) (World.block_lt_of_cell? w ⟨b,0,none⟩ h0)).trans hf⟩
end Go.Proofs.YtlibhkkckgkkkaaGreatDoor.Mem
