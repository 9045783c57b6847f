/- Part of the proof of TopFeeds: LexB LexC LexD AwC. -/
import Derived.Test.YtlibhkkckgkkkaaGreatDoorZAG
import Derived.Test.YtlibhkkckgkkkaaGreatDoorZAS
import Derived.Lib.BufferOwn
import Derived.RangeFuncBound
import Derived.RangeFuncNested
set_option maxHeartbeats 4000000
set_option maxRecDepth 100000
namespace Go.Proofs.YtlibhkkckgkkkaaGreatDoor.Tf
open Go.RowKit Go.Proofs.YtlibhkkckgkkkaaGreatDoor.Mem Go.Proofs.YtlibhkkckgkkkaaGreatDoor.Boo Go.Proofs.Tryz
attribute [local go_sem] Oper.semAt_some
abbrev qL:ByteArray:=⟨#[32,10]⟩
def fW (s:ByteArray) (i:Nat):Nat:=i+(jI (s.extract i s.size) qL).toNat
def gJ (s:ByteArray) (i:Nat):Tok×Bool:=({(dB (s.extract (fW s i) s.size)).1 with a:=fW s i},(dB (s.extract (fW s i) s.size)).2)
theorem rD (s:ByteArray) (i:Nat):gJ s i=({(dB (s.extract (fW s i) s.size)).1 with a:=fW s i},(dB (s.extract (fW s i) s.size)).2):=rfl
attribute [irreducible] gJ
def pS (tk:Nat→Tok×Bool) (nx:Nat→Nat):Nat→Nat→List (Tok×Bool)
 |0,_=>[]
 |f+1,i=>if(tk i).2=false∨(tk i).1.k=5 then[tk i] else tk i::pS tk nx f (nx i)
def iD (f:Nat) (s:ByteArray) (i:Nat):List (Tok×Bool):=pS (gJ s) (fun i=>fW s i+(gJ s i).1.s.size) f i
theorem kS (f:Nat) (s:ByteArray) (i:Nat) (h:(gJ s i).2=false∨(gJ s i).1.k=5):iD (f+1) s i=[gJ s i]:=by
 show pS _ _ (f+1) i=_
 rw[pS,if_pos h]
theorem mY (f:Nat) (s:ByteArray) (i:Nat) (h:¬((gJ s i).2=false∨(gJ s i).1.k=5)):iD (f+1) s i=gJ s i::iD f s (fW s i+(gJ s i).1.s.size):=by
 show pS _ _ (f+1) i=_
 rw[pS,if_neg h]
 rfl
theorem aCw (tk:Nat→Tok×Bool) (nx:Nat→Nat) (f i:Nat):(pS tk nx f i).length≤f:=by
 induction f generalizing i with
 |zero=>exact nR
 |succ f ih=>
  rw[pS]
  split
  ·simp
  ·have:=ih (nx i)
   simp;omega
theorem vU (s:ByteArray) (i:Nat) (h:i≤s.size):i≤fW s i∧fW s i≤s.size:=by
 unfold fW
 have:=qN (s.extract i s.size) qL
 rw[ByteArray.size_extract] at this
 omega
theorem rK (t:ByteArray):(kE t).1.s=t:=by
 unfold kE
 split
 ·rfl
 ·split <;> rfl
theorem aEq (s:ByteArray):(dB s).1.s.size≤s.size:=by
 unfold dB
 split
 ·exact Nat.zero_le _
 ·split
  ·show(s.extract 0 1).size≤_
   rw[ByteArray.size_extract];omega
  ·rw[rK,ByteArray.size_extract];omega
theorem wD:(kE ⟨#[]⟩).2=false:=by decide +kernel
theorem aAj (s:ByteArray) (h:(dB s).2=true) (hk:(dB s).1.k≠5):0<(dB s).1.s.size:=by
 unfold dB at h hk ⊢
 split at h
 ·rename_i h0
  rw[if_pos h0] at hk
  exact absurd rfl hk
 ·rename_i h0
  rw[if_neg h0]
  split
  ·show 0<(s.extract 0 1).size
   rw[ByteArray.size_extract];omega
  ·rename_i h1
   rw[if_neg h1] at h
   rw[rK]
   rcases Nat.eq_zero_or_pos (s.extract 0 (jI s qJ).toNat).size with hz|hz
   ·have:s.extract 0 (jI s qJ).toNat=⟨#[]⟩:=ByteArray.ext (Array.eq_empty_of_size_eq_zero hz)
    rw[this,wD] at h
    cases h
   ·exact hz
theorem yO (s:ByteArray) (i:Nat) (hi:i≤s.size) (h:(gJ s i).2=true) (hk:(gJ s i).1.k≠5):i<fW s i+(gJ s i).1.s.size∧fW s i+(gJ s i).1.s.size≤s.size:=by
 have h1:=vU s i hi
 have h3:=aEq (s.extract (fW s i) s.size)
 have h2:=aAj (s.extract (fW s i) s.size)
 rw[ByteArray.size_extract] at h3
 rw[rD] at h hk ⊢
 generalize dB (s.extract (fW s i) s.size)=t at h h2 h3 hk ⊢
 have h4:=h2 h hk
 dsimp only
 omega
theorem aCy (f:Nat) (s:ByteArray) (i:Nat):(iD f s i).length≤f:=aCw _ _ _ _
theorem qZ (f:Nat) (s:ByteArray) (i:Nat):∃r,iD (f+1) s i=gJ s i::r:=by
 by_cases h:(gJ s i).2=false∨(gJ s i).1.k=5
 ·exact⟨[],kS f s i h⟩
 ·exact⟨_,mY f s i h⟩
theorem aCx (f:Nat) (s:ByteArray) (i:Nat):1≤(iD (f+1) s i).length:=by
 obtain⟨r,hr⟩:=qZ f s i
 rw[hr];simp
def KT (n0 Bn:Nat) (A B:World):Prop:=Below n0 A B∧(∀(k:Nat) (cs:Array Value),A.heap[k]?=some (.cells cs 92 (0,0))→cs.size=4→B.heap[k]?=A.heap[k]?)∧B.heap[Bn]?=A.heap[Bn]?
theorem kt_t {n0 Bn:Nat} {A B C:World} (h:KT n0 Bn A B) (k:KT n0 Bn B C):KT n0 Bn A C:=
 ⟨h.1.trans k.1,fun q cs hq hz=>by rw[k.2.1 q cs (by rw[h.2.1 q cs hq hz];exact hq) hz];exact h.2.1 q cs hq hz,k.2.2.trans h.2.2⟩
theorem kt_b {n0 Bn:Nat} {w:World} (hn:n0≤w.heap.size) (hB:Bn<w.heap.size) (W:World) (l:Nat) (o o':Obj) (hl:w.heap.size≤l) (h:W.heap[l]?=some o) (hc:o.isCells=false) (hw:o.isWalk=false):KT n0 Bn W (W.putObj l o'):=
 ⟨belowK_b hn W l o o' hl h hc hw,fun k cs hk _=>by
   have hne:k≠l:=fun e=>by rw[e,h] at hk;cases hk;cases hc
   exact(grownBy_putObj' W l o').block k (gLt hk) (fun e=>hne (by cases e;rfl)),(grownBy_putObj' W l o').block Bn (by have:=(gLt h);omega) (fun e=>by cases e;omega)⟩
theorem aH0 {n0 Bn:Nat} {A B:World} (h:Below A.heap.size A B) (hn:n0≤A.heap.size) (hB:Bn<A.heap.size):KT n0 Bn A B:=
 ⟨h.mono hn,fun k _ hk _=>h.block k (gLt hk),h.block Bn hB⟩
theorem sQ {A B:World} {b:Nat} (h:A.heap[b]?=B.heap[b]?) (i:Nat):A.cell? ⟨b,i,none⟩=B.cell? ⟨b,i,none⟩:=by simp[World.cell?,h]
theorem aA {W:World} {b:Nat} {cs:Array Value} {t:TypeId} (h:W.heap[b]?=some (.cells cs t (0,0))) (i:Nat):W.cell? ⟨b,i,none⟩=cs[i]?:=by simp[World.cell?,h]
def encT (x:Tok×Bool):Array Value:=#[x.1.v,.bool x.2]
theorem aK4 (l Bn n0:Nat) (s:ByteArray) (hs:s.size≤4000) (J Jx:List (Tok×Bool)→World→Prop)
 (W:World) (hn0:n0≤W.heap.size) (hBn:W.cell? ⟨Bn,0,none⟩=some (.string s)) (hBn0:Bn<W.heap.size) (_G:Gl W) (hg0:∀W',Below n0 W W'→Gl W') (hJ:AbidesFrom W.heap.size J)
 (hY:∀pre x W1,J pre W1→pre.length<s.size+1→YieldAt Fence.wide 1 prog l (encT x) W1 fun e W'=>
   (e=.returned (.bool true)∧J (pre++[x]) W'∧KT n0 Bn W1 W')∨(e=.returned (.bool false)∧Jx (pre++[x]) W')) (h0:J [] W):
 CallsIn Fence.wide 2 prog 159 #[.func (.yield l) #[] #[],.pointer (some ⟨Bn,0,none⟩)] W fun e W'=>(∃v,e=.returned v)∧
  ((∃ys,ys=iD (s.size+1) s 0∧J ys W')∨(∃pre,pre <+:iD (s.size+1) s 0∧Jx pre W')):=by
 refine callsIn_of_wp func159 rfl trivial ?_ rfl
 simp only[ntmps159,List.size_toArray,List.length_cons,List.length_nil,Nat.reduceAdd,Nat.reduceSub,Array.replicate_succ,Array.replicate_zero,List.push_toArray,List.append_toArray,List.nil_append,List.cons_append]
 gi_wp2
 have HG0:=Hd hg0
 have HJ:=Hd hJ
 have HY:=Hd hY
 clear hg0 hJ hY
 gi_loopw [3] (fun p wr=>∃(pre:List (Tok×Bool)) (i f:Nat),p=.int .i64 i∧i≤s.size∧s.size<i+f∧Hid (iD (s.size+1) s 0=pre++iD f s i)∧Hid (J pre wr)∧Hid (Below n0 W wr)∧Hid (wr.heap[Bn]?=W.heap[Bn]?))
  (fun p wr=>s.size+1-(intOf p).toNat)
 case atStart=>exact⟨[],0,s.size+1,rfl,Nat.zero_le _,by omega,Hd (by simp),Hd h0,Hd bR,Hd rfl⟩
 case round=>
  obtain⟨pre,i,f,rfl,hi,hf,HE,HJ0,HB,HS⟩:=hrel
  obtain⟨f,rfl⟩:∃g,f=g+1:=⟨f-1,by omega⟩
  have hBr:=(sQ HS.out 0).trans hBn
  obtain⟨j,hj⟩:∃j,j=fW s i:=⟨_,rfl⟩
  have hjb:=vU s i hi
  rw[←hj] at hjb
  obtain⟨r,hr⟩:∃r,r=s.extract i s.size:=⟨_,rfl⟩
  have hrj:(jI r qL)=(j:Int)-i:=by
   have:=qN (s.extract i s.size) qL
   unfold fW at hj
   rw[hr];omega
  have hrz:r.size≤4000:=by rw[hr,ByteArray.size_extract];omega
  obtain⟨q,hq⟩:∃q,q=s.extract j s.size:=⟨_,rfl⟩
  have hqz:q.size≤4000:=by rw[hq,ByteArray.size_extract];omega
  obtain⟨d,hd⟩:∃d:Int,d=(j:Int)-i:=⟨_,rfl⟩
  have HR:Hid (∀W,Calls prog 120 #[.string r,.string qL] W fun e w'=>e=.returned (.int .i64 d)∧W=w'):=Hd (fun W=>by rw[hd,←hrj];exact mD r qL W (by omega))
  obtain⟨t,ht⟩:∃t,t=dB q:=⟨_,rfl⟩
  have HF:Hid (∀W,Gl W→Calls prog 160 #[.string q] W (Ret (.tuple #[.agg #[.int .i64 t.1.k,.string t.1.s,.int .i64 t.1.n,.int .i64 t.1.a],.bool t.2]) W)):=Hd (fun W hW=>by rw[ht];exact aEp q hqz W hW)
  have HT:Hid (gJ s i=({t.1 with a:=j},t.2)):=Hd (by rw[rD,←hj,←hq,←ht])
  have z1:(i:Int)≤(s.size:Int):=by omega
  have z2:(j:Int)≤(s.size:Int):=by omega
  have z3:wrap64 ((i:Int)+d)=j:=by rw[Mem.w64 (by omega) (by omega)];omega
  have z4:(0:Int)≤(i:Int):=by omega
  have z5:(0:Int)≤(j:Int):=by omega
  have e1:=hr.symm
  have e2:=hq.symm
  obtain⟨⟨tk,ts,tn,ta⟩,tb⟩:=t
  have HJS:=Hd hj
  clear hrj hr hq ht hj hd
  dsimp only at HF
  have HL:Hid (pre.length<s.size+1):=Hd (by
   have h1:=aCy (s.size+1) s 0
   have h2:=aCx f s i
   rw[HE.out,lA] at h1
   omega)
  have HX:Hid (pre++[({k:=tk,s:=ts,n:=tn,a:=j},tb)] <+:iD (s.size+1) s 0):=Hd (by
   obtain⟨r,hr⟩:=qZ f s i
   rw[HE.out,hr,HT.out]
   exact⟨r,by simp⟩)
  have HM:Hid (J pre wr→pre.length<s.size+1→∀W',Below wr.heap.size wr W'→∃fn tmps assign body,(Instr.yield l (encT ({k:=tk,s:=ts,n:=tn,a:=j},tb))).run prog W'=.ok (.round l fn tmps assign body) W'∧RoundIn Fence.wide 1 prog l fn tmps assign body W' fun e W''=>
   (e=.returned (.bool true)∧J (pre++[({k:=tk,s:=ts,n:=tn,a:=j},tb)]) W''∧KT n0 Bn W' W'')∨(e=.returned (.bool false)∧Jx (pre++[({k:=tk,s:=ts,n:=tn,a:=j},tb)]) W'')):=
   Hd (fun hj hl W' hb=>HY.out pre _ W' (HJ.out pre wr W' none hj (Lib.grownBy_below (World.grownBy.refl _ _) hb) (fun r e=>by cases e)) hl)
  gi_wp2_with (first
   |(refine⟨trivial,?_⟩;gi_at_call 120;go_must (refine(callsIn_wide.2 (HR.out _)).mono ?_;rintro e W ⟨rfl,rfl⟩))
   |(refine⟨trivial,?_⟩;gi_at_call 160;go_must (refine(callsIn_wide.2 (HF.out _ (HG0.out _ HB.out))).mono ?_;rintro e W2 ⟨rfl,hb⟩;obtain⟨fn,tmps,assign,body,hy,hR⟩:=HM.out HJ0.out HL.out (W2.alloc (.cells #[.int .i64 tk,.string ts,.int .i64 tn,.int .i64 j] 92)) (aB hb _);simp only[encT,Tok.v] at hy;have HRd:=Hd hR;have HBq:=Hd hb;clear hR hb)))
  refine HRd.out.mono ?_
  rintro e W3 (⟨rfl,hJ3,hk3⟩|⟨rfl,hJx3⟩)
  ·have B3:=Hd (HB.out.trans (((HBq.out.mono (Nat.le_trans hn0 HB.out.size)).alloc (by have:=HBq.out.size;have:=HB.out.size;omega) _).trans hk3.1))
   have S3:=Hd (hk3.2.2.trans (((aB HBq.out _).block Bn (Nat.lt_of_lt_of_le hBn0 HB.out.size)).trans HS.out))
   have hh:=hk3.2.1 W2.heap.size _ (aN W2 _) rfl
   rw[World.alloc_heap_new] at hh
   have ht0:=aA hh 0
   have ht1:=aA hh 1
   simp only[List.getElem?_toArray,List.getElem?_cons_zero,List.getElem?_cons_succ] at ht0 ht1
   have HJ3:=Hd hJ3
   clear hJ3 hk3 hh
   cases tb with
   |false=>
    gi_wp2
    refine bodyPost_ret (results_none rfl _ _ _) rfl ?_
    exact⟨⟨_,rfl⟩,.inl ⟨_,by rw[HE.out,kS _ _ _ (.inl (by rw[HT.out])),HT.out],HJ3.out⟩⟩
   |true=>
    by_cases hk5:tk=5
    ·gi_wp2
     refine bodyPost_ret (results_none rfl _ _ _) rfl ?_
     exact⟨⟨_,rfl⟩,.inl ⟨_,by rw[HE.out,kS _ _ _ (.inr (by rw[HT.out];exact hk5)),HT.out],HJ3.out⟩⟩
    ·have HN:=Hd (yO s i hi (by rw[HT.out]) (by rw[HT.out];exact hk5))
     have hN2:=HN.out
     rw[HT.out,←HJS.out] at hN2
     dsimp only at hN2
     obtain⟨m,hm⟩:∃m,m=j+ts.size:=⟨_,rfl⟩
     rw[←hm] at hN2
     have a1:=hN2.2
     have a2:s.size<m+f:=by omega
     have a3:s.size+1-m<s.size+1-i:=by omega
     have z6:wrap64 ((j:Int)+(ts.size:Int))=(m:Int):=by rw[Mem.w64 (by omega) (by omega)];omega
     have HE2:Hid (iD (s.size+1) s 0=(pre++[({k:=tk,s:=ts,n:=tn,a:=j},true)])++iD f s m):=Hd (by
      rw[HE.out,mY _ _ _ (by rw[HT.out];simpa using hk5),HT.out,List.append_assoc,←HJS.out,hm];rfl)
     clear hN2 hm HN HT HF HR HM HRd HBq
     have A1:=Hd a1
     have A2:=Hd a2
     have A3:=Hd a3
     clear a1 a2 a3
     gi_wp2
     go_roundw
     case rel=>exact⟨_,m,f,by rw[z6],A1.out,A2.out,HE2,HJ3,B3,S3⟩
     case measure=>
      rw[z6]
      have a3:=A3.out
      simpa[intOf] using a3
  ·gi_wp2
   refine bodyPost_ret (results_none rfl _ _ _) rfl ?_
   exact⟨⟨_,rfl⟩,.inr ⟨_,HX.out,hJx3⟩⟩
end Go.Proofs.YtlibhkkckgkkkaaGreatDoor.Tf
namespace Go.Proofs.YtlibhkkckgkkkaaGreatDoor.Tf
open Go.RowKit Go.Proofs.YtlibhkkckgkkkaaGreatDoor.Mem Go.Proofs.YtlibhkkckgkkkaaGreatDoor.Boo
attribute [local go_sem] Oper.semAt_some
theorem vL {P:Program} (w:World) (base:Nat) (t ty e:TypeId) (i:TypeInfo) (z:Value) (size bytes:Nat) (ht:P.underlying t=some (.slice e)) (hi:P.info? e=some i) (hz:i.zero=some z)
 (hsize:i.size=size) (hby:i.bytes=bytes) (hsz:0<size)
 (v:Value) (n:Nat) (xs:List Value) (hown:w.ownsRow base e size v n xs) (hn0:n=0→v=.slice none 0 0)
 (a:Addr) (c:Nat) (news:List Value) (hl:news.length=1 * size) (hnews:∀j u,news[j]?=some u→w.cell? (a.add j)=some u) (h1:∀u∈news,u.oneCell'=true)
 (h63:n+1≤maxLen) (hbytes:(n+1) * bytes≤140737488355328) (v':Value) (w':World)
 (hrun:(Builtin.append_ #[t,t] ty #[v,.slice (some a) 1 c]).run P w=.ok v' w') (k:Nat) (cs:Array Value) (hk:w.heap[k]?=some (.cells cs e (0,0))) (hcs:cs.size=size):w'.heap[k]?=w.heap[k]?:=by
 subst hsize
 subst hby
 have hlt:=(gLt hk)
 have hsmall:n+1≤9223372036854775807:=by simp only[maxLen] at h63;omega
 rcases hown.2 with⟨rfl,rfl⟩|⟨g,cap,cur,rfl,hbg,hg,hnc,hcm,hcu,htake⟩
 ·have hr:=run_append_nil (P:=P) (w:=w) t ty e i z ht hi hz a 1 c news hl hnews (by omega) (by omega) (by have hb:=hbytes;simp only[Nat.zero_add] at hb;omega)
  rw[hr] at hrun
  cases hrun
  exact heap_alloc_old w.drew _ hlt
 ·by_cases hroom:n+1≤cap
  ·have hfit:n * i.size+news.length≤cur.size:=by rw[hl,hcu,←Nat.add_mul];exact Nat.mul_le_mul_right _ hroom
   have hr:=run_append_room (P:=P) (w:=w) t ty e i ht hi g n cap cur hg a 1 c news hl hnews h1 hroom hfit
   rw[hr] at hrun
   cases hrun
   refine setRow_other w g k _ ?_
   rintro rfl
   rw[hg] at hk
   cases hk
   rw[hcu] at hcs
   have h2:cap=1:=by
    rcases Nat.lt_or_ge cap 2 with h|h
    ·rcases Nat.lt_or_ge cap 1 with h'|h'
     ·omega
     ·omega
    ·have:=Nat.mul_le_mul_right i.size h
     omega
   have:=hn0 (by omega)
   cases this
  ·have holds:=hown.cells (g:=g) rfl
   have hr:=run_append_grow (P:=P) (w:=w) t ty e i z ht hi hz ⟨g,0,none⟩ n cap xs hown.1 holds a 1 c news hl hnews (by omega) (by omega) (growslice_fits (by omega) hbytes)
   rw[hr] at hrun
   cases hrun
   exact heap_alloc_old w.drew _ hlt
theorem nQ {F:Fence} {n:Nat} {P:Program} (w:World) {ops:Array Oper} {rest:List Oper} {o:Oper} {a:Act} {Q:Exit→Act→World→Prop}
 (hg:o.guard=none) (s x:Operand) (t:TypeId) (hop:o.op=Op.call {callee:=Callee.builtin Builtin.append,args:=#[s,x],argTypes:=#[t,t]})
 (base:Nat) (e:TypeId) (i:TypeInfo) (z:Value) (size bytes:Nat) (h1:P.underlying t=some (.slice e)) (h2:P.info? e=some i) (h3:i.zero=some z) (h4:i.size=size) (h5:i.bytes=bytes) (h6:z.cells.size=size) (h7:0<size)
 (v:Value) (k:Nat) (xs:List Value) (hs:a.eval s=v) (hown:w.ownsRow base e size v k xs) (hn0:k=0→v=.slice none 0 0) (ad:Addr) (c:Nat) (news:List Value) (hx:a.eval x=.slice (some ad) 1 c) (hn:news.length=1 * size)
 (hc:∀j u,news[j]?=some u→w.cell? (ad.add j)=some u) (h1c:∀u∈news,u.oneCell'=true) (b1:k+1≤maxLen) (b2:(k+1) * bytes≤140737488355328) (b3:base≤w.heap.size)
 (hK:∀v' w',w'.ownsRow base e size v' (k+1) (xs++news)→w.grownBy w' v.ownBlock→(∀(q:Nat) (cs:Array Value),w.heap[q]?=some (.cells cs e (0,0))→cs.size=size→w'.heap[q]?=w.heap[q]?)→(v'.ownBlock=v.ownBlock∨v'.ownBlock=some w.heap.size)→wpListIn F n P ops Q rest (a.put o.dst v') w'):
 wpListIn F n P ops Q (o::rest) a w:=by
 refine wpListIn_plain hg fun K hK'=>?_
 obtain⟨v',w',hrun,r1,r2,r3,r4⟩:=run_append_own_at (P:=P) (w:=w) base t o.type e i z size bytes h1 h2 h3 h4 h5 h6 h7 v k xs hown ad 1 c news hn hc h1c b1 b2 b3
 unfold Oper.wpIn
 refine⟨?_,?_⟩
 ·simp[Oper.about,hop,resolve,Target.leads,Sem.run_pure]
 ·rw[Oper.semAt_plain F _ _ (by rw[hop];intro c hc';cases hc')]
  simp[execOp,hop,resolve,invoke,builtin,hs,hx,hrun,Result.andThen]
  exact hK' _ _ (hK v' w' r1 r2 (vL w base t o.type e i z size bytes h1 h2 h3 h4 h5 h7 v k xs hown hn0 ad c news hn hc h1c b1 b2 v' w' hrun) r4)
theorem yN (s:ByteArray) (w:World):
 Calls Tryz.prog 87 #[.string s] w fun e w'=>e=.returned (.func (.func 159) #[] #[.pointer (some ⟨w.heap.size,0,none⟩)])∧w'=w.alloc (.cells #[.string s] 9):=by
 go_enter Tryz.func87,Tryz.ntmps87
 go_wp2
 go_ret
 exact⟨rfl,rfl⟩
theorem aPx:(Tryz.prog.info? 92).map (fun i=>(i.zero,i.size,i.bytes))=some (some (.agg #[.int .i64 0,.string ⟨#[]⟩,.int .i64 0,.int .i64 0]),4,40):=by kernel_rfl
def dK:En Tok:=⟨fun m=>[.int .i64 m.k,.string m.s,.int .i64 m.n,.int .i64 m.a],4,by omega,fun _=>rfl,fun x u hu=>by simp at hu;rcases hu with rfl|rfl|rfl|rfl <;> rfl⟩
end Go.Proofs.YtlibhkkckgkkkaaGreatDoor.Tf
namespace Go.Proofs.YtlibhkkckgkkkaaGreatDoor.Tf
open Go.RowKit Go.Proofs.YtlibhkkckgkkkaaGreatDoor.Mem Go.Proofs.YtlibhkkckgkkkaaGreatDoor.Boo Go.Proofs.Tryz
attribute [local go_sem] Oper.semAt_some
theorem aA9 (W:World) (l:List Value) (j:Nat) (u:Value) (h:l[j]?=some u):(W.alloc (.cells l.toArray 92)).cell? ((⟨W.heap.size,0,none⟩:Addr).add j)=some u:=by
 have:=aA (aN W (.cells l.toArray 92)) j
 rw[List.getElem?_toArray,h] at this
 rw[show(⟨W.heap.size,0,none⟩:Addr).add j=⟨W.heap.size,j,none⟩ from by unfold Addr.add;split <;> simp_all]
 exact this
def LexR (w:World) (l:List Tok) (n:Nat) (er at_:Int) (e:Ending) (w':World):Prop:=
 ∃A c,e=.returned (.tuple #[.slice A n c,.int .i64 er,.int .i64 at_])∧dK.Own 92 w' w.heap.size A c l∧Below w.heap.size w w'
theorem aHt (s:ByteArray) (hs:s.size≤2000) (w:World) (G:Gl w) (L:List (Tok×Bool)) (hL:Hid (L=iD (s.size+1) s 0)) (R:Ending→World→Prop)
 (H0:Hid ((∀x∈L,x.2=true)→∀e w',LexR w (L.map Prod.fst) L.length 0 0 e w'→R e w'))
 (H1:Hid (∀pre x,pre++[x] <+:L→(∀y∈pre,y.2=true)→x.2=false→∀e w',LexR w [] 0 61 x.1.a e w'→R e w')):CallsIn Fence.wide 3 prog 39 #[.string s] w R:=by
 obtain⟨i0,hi,hz0,hz1,hz2⟩:=info_parts aPx
 have g1:¬(2000<(s.size:Int)):=by omega
 refine callsIn_of_wp_marks func39 rfl trivial ?_ rfl
 simp only[ntmps39,List.size_toArray,List.length_cons,List.length_nil,Nat.reduceAdd,Nat.reduceSub,Array.replicate_succ,Array.replicate_zero,List.push_toArray,List.append_toArray,List.nil_append,List.cons_append]
 gi_wp2_with (refine⟨trivial,?_⟩;gi_at_call 87;go_must (refine(callsIn_wide.2 (yN s _)).mono ?_;rintro e w' ⟨rfl,rfl⟩))
 have bO:=(((Boxed.new w 83 (.slice none 0 0)).alloc (.cells #[.int .i64 0] 36)).alloc (.cells #[.int .i64 0] 3)).alloc (.cells #[.string s] 9)
 have bE:=((Boxed.new (w.alloc (.cells #[.slice none 0 0] 83)) 36 (.int .i64 0)).alloc (.cells #[.int .i64 0] 3)).alloc (.cells #[.string s] 9)
 have bT:=(Boxed.new ((w.alloc (.cells #[.slice none 0 0] 83)).alloc (.cells #[.int .i64 0] 36)) 3 (.int .i64 0)).alloc (.cells #[.string s] 9)
 have bS:=Boxed.new (((w.alloc (.cells #[.slice none 0 0] 83)).alloc (.cells #[.int .i64 0] 36)).alloc (.cells #[.int .i64 0] 3)) 9 (.string s)
 simp only[World.size_alloc] at bE bT bS
 have hB0:Below w.heap.size w ((((w.alloc (.cells #[.slice none 0 0] 83)).alloc (.cells #[.int .i64 0] 36)).alloc (.cells #[.int .i64 0] 3)).alloc (.cells #[.string s] 9)):=((((Below.refl _ w).alloc nR _).alloc (by simp) _).alloc (by simp;omega) _).alloc (by simp;omega) _
 have hsz:((((w.alloc (.cells #[.slice none 0 0] 83)).alloc (.cells #[.int .i64 0] 36)).alloc (.cells #[.int .i64 0] 3)).alloc (.cells #[.string s] 9)).heap.size=w.heap.size+4:=by simp
 obtain⟨W0,hW0⟩:∃W0,(((w.alloc (.cells #[.slice none 0 0] 83)).alloc (.cells #[.int .i64 0] 36)).alloc (.cells #[.int .i64 0] 3)).alloc (.cells #[.string s] 9)=W0:=⟨_,rfl⟩
 rw[hW0] at bO bE bT bS hB0 hsz ⊢
 clear hW0
 refine wpIn_rangeFunc_ownH (α:=Tok×Bool) (encs:=encT) (S:=fun ys=>ys=L) (Sp:=fun pre=>pre <+:L) (N:=s.size+1) (Kp:=KT w.heap.size (w.heap.size+1+1+1)) (w0:=W0) rfl (by omega) (gf:=159) (lb:=#[.pointer (some ⟨w.heap.size+1+1+1,0,none⟩)]) rfl trivial (enters_of func159 (by kernel_rfl) rfl)
  ?seq kt_t (kt_b (by omega) (by omega)) bR (fun _=>rfl)
  (fun pre W=>((((∃v,Boxed W w.heap.size 83 v∧W.ownsRow w.heap.size 92 4 v pre.length (dK.cs (pre.map Prod.fst))∧((pre.length=0→v=.slice none 0 0)∧∀x∈pre,x.2=true))∧Boxed W (w.heap.size+1) 36 (.int .i64 0))∧Boxed W (w.heap.size+1+1) 3 (.int .i64 0))∧Boxed W (w.heap.size+1+1+1) 9 (.string s))∧Below w.heap.size w W)
  (fun c pre W=>(((c=.ret∧∃pre' x,pre=pre'++[x]∧(∀y∈pre',y.2=true)∧x.2=false∧Boxed W (w.heap.size+1+1) 3 (.int .i64 x.1.a))∧Boxed W (w.heap.size+1) 36 (.int .i64 61))∧Boxed W w.heap.size 83 (.slice none 0 0))∧Below w.heap.size w W)
  ?oI ?oX ⟨⟨⟨⟨⟨_,bO,World.ownsRow_nil _ _ _ _,fun _=>rfl,fun x hx=>by cases hx⟩,bE⟩,bT⟩,bS⟩,hB0⟩
  (fun x a' W=>∃Bx,w.heap.size+1+1<Bx∧W.heap[Bx]?=some (.cells #[.int .i64 x.1.k,.string x.1.s,.int .i64 x.1.n,.int .i64 x.1.a] 92 (0,0))∧a'={tmps:=#[.string s,undef,.pointer (some ⟨w.heap.size,0,none⟩),.pointer (some ⟨w.heap.size+1,0,none⟩),.pointer (some ⟨w.heap.size+1+1,0,none⟩),.pointer (some ⟨Bx,0,none⟩),.bool x.2,.string s,.int .i64 s.size,.bool false,.string s,.func (.func 159) #[] #[.pointer (some ⟨w.heap.size+1+1+1,0,none⟩)],x.1.v,.bool x.2,undef,undef,undef,undef,undef,undef,undef,undef,undef],defers:=[]})
  ?oA ?assign ?body ?done ?stop
 case seq=>
  intro l J Jx W hW hJ hJx hY h0
  have hc:=(hW.cell (p:=⟨w.heap.size+1+1+1,0,none⟩) (by simp only;omega)).trans bS.cell
  rw[hL.out]
  exact aK4 l (w.heap.size+1+1+1) w.heap.size s (by omega) J Jx W (by have:=hW.size;omega) hc (by have:=hW.size;omega) (G.below (hB0.trans (hW.mono (by omega)))) (fun W' hb=>G.below ((hB0.trans (hW.mono (by omega))).trans hb)) hJ hY h0
 case oI=>exact OwnFrom.and (OwnFrom.and (OwnFrom.and (OwnFrom.and (Own.from (holdsRow_own w.heap.size w.heap.size 83 92 4 (fun pre:List (Tok×Bool)=>pre.length) (fun pre=>dK.cs (pre.map Prod.fst)) (fun pre v=>(pre.length=0→v=.slice none 0 0)∧∀x∈pre,x.2=true)) _) (Own.from (boxed_own _ _ _) _)) (Own.from (boxed_own _ _ _) _)) (Own.from (boxed_own _ _ _) _)) (ownFrom_below nR (by omega))
 case oX=>
  intro c
  refine OwnFrom.and (OwnFrom.and (OwnFrom.and ?_ (Own.from (boxed_own _ _ _) _)) (Own.from (boxed_own _ _ _) _)) (ownFrom_below nR (by omega))
  rintro pre X Y row ⟨h1,pre',x,h2,h3,h4,h5⟩ hg hr
  exact⟨h1,pre',x,h2,h3,h4,boxed_own _ _ (fun(_:Unit)=>Value.int .i64 x.1.a) () X Y row h5 hg (fun r e=>(hr r e).2)⟩
 case oA=>
  rintro x a' _ X Y row ⟨Bx,h1,h2,h3⟩ hg hr
  refine⟨Bx,h1,(hg.block Bx (gLt h2) (fun e=>?_)).trans h2,h3⟩
  obtain⟨_,o,ho,hc⟩:=hr Bx e.symm
  rw[h2] at ho
  cases ho
  cases hc
 case assign=>
  rintro l pre x W K hI hK
  obtain⟨⟨⟨⟨⟨v,hv,hrow,hn,hall⟩,bE1⟩,bT1⟩,bS1⟩,hB1⟩:=hI
  obtain⟨⟨k,ts,n,a⟩,ok⟩:=x
  have hlt:=bT1.lt
  have HK:=Hd hK
  clear hK
  dsimp only[encT,Tok.v]
  gi_wp2
  exact HK.out _ _ ((KeepsOthers.alloc _ _).from _) (aH0 ((Below.refl _ W).alloc nR _) hB1.size bS1.lt) ⟨⟨⟨⟨⟨v,hv.alloc _,hrow.alloc _,hn,hall⟩,bE1.alloc _⟩,bT1.alloc _⟩,bS1.alloc _⟩,hB1.alloc hB1.size _⟩ ⟨W.heap.size,hlt,aN W _,rfl⟩
 case body=>
  rintro l pre x a' W hl ⟨r,hr⟩ ⟨⟨⟨⟨⟨v,hv,hrow,hn,hall⟩,bE1⟩,bT1⟩,bS1⟩,hB1⟩ ⟨Bx,hBx,bX,rfl⟩ hlt
  obtain⟨⟨k,ts,n,a⟩,ok⟩:=x
  have cV:=hv.cell
  have fV:=hv.frozen
  have cE:=bE1.cell
  have fE:=bE1.frozen
  have cT:=bT1.cell
  have fT:=bT1.frozen
  have cX0:=aA bX 0
  have cX1:=aA bX 1
  have cX2:=aA bX 2
  have cX3:=aA bX 3
  simp only[List.getElem?_toArray,List.getElem?_cons_zero,List.getElem?_cons_succ] at cX0 cX1 cX2 cX3
  have HP:=Hd hlt
  have HR:=Hd hrow
  have HN:=Hd hn
  have HV:=Hd hv
  have HB:=Hd hB1
  have HX:=Hd bX
  have HBx:=Hd hBx
  have HE:=Hd bE1
  have HT:=Hd bT1
  have HS:=Hd bS1
  have HA:=Hd hall
  clear hlt hn hBx hr hl hrow hall hv hB1 bX bE1 bT1 bS1
  dsimp only[Tok.v]
  cases ok with
  |false=>
   gi_wp2
   have hmx:prog.follows .mixedOrders=true:=by kernel_rfl
   gi_region_with_o (fail)
   all_goals gi_wp2
   all_goals (try go_bits)
   all_goals (refine⟨?_,⟨⟨⟨rfl,pre,_,rfl,HA.out,rfl,?_⟩,?_⟩,?_⟩,?_⟩)
   all_goals first
    |exact(KeepsOthers.trans (KeepsOthers.trans (KeepsOthers.trans (KeepsOthers.setCell _ _ _) (KeepsOthers.setCell _ _ _)) (KeepsOthers.setCell _ _ _)) (KeepsOthers.drew _)).from _
    |exact Boxed.set _ ((HT.out.other (by omega) _).other (by omega) _)
    |exact((HE.out.other (by omega) _).set _).other (by omega) _
    |exact((HV.out.set _).other (by omega) _).other (by omega) _
    |exact aI (((HB.out.setCell (p:=⟨w.heap.size,0,none⟩) nR _).setCell (p:=⟨w.heap.size+1,0,none⟩) (by simp) _).setCell (p:=⟨w.heap.size+1+1,0,none⟩) (by simp only;omega) _)
  |true=>
   obtain⟨hv1,hv2,hr2,hk2,hb2⟩:∃_:True,∃_:True,∃_:True,∃_:True,True:=⟨trivial,trivial,trivial,trivial,trivial⟩
   gi_wp2_with (gi_at_builtin;go_must (refine nQ _ rfl _ _ 83 rfl w.heap.size 92 i0 (.agg #[.int .i64 0,.string ⟨#[]⟩,.int .i64 0,.int .i64 0]) 4 40 underlying83 hi hz0 hz1 hz2 rfl (by decide) v pre.length _ rfl (HR.out.alloc _) HN.out ⟨W.heap.size,0,none⟩ 1 [.int .i64 k,.string ts,.int .i64 n,.int .i64 a] rfl rfl (aA9 _ _) (by simp[Value.oneCell']) (by have:=HP.out;simp only[maxLen];omega) (by have:=HP.out;omega) (by have:=HB.out.size;simp;omega) ?_;intro v' w1 hown' hgrow hkeep hat;obtain⟨g',cap',rfl⟩:=ownsRow_succ hown';obtain⟨hv1,hv2,hr2,hk2,hb2⟩:=HV.out.appended (by decide) HR.out HB.out.size nR hown' hgrow;have hc1:=hv1.cell;have hf1:=hv1.frozen))
   refine⟨hk2.from _,⟨hb2,fun q cs hq hz=>?_,?_⟩,?_⟩
   ·have hne:some q≠some w.heap.size:=fun e=>by
     cases e
     rw[show W.heap[w.heap.size]?=_ from HV.out] at hq
     cases hq
    have hlq:=(gLt hq)
    have h1:=Below.heap_alloc W (.cells #[.int .i64 k,.string ts,.int .i64 n,.int .i64 a] 92) q hlq
    have h2:=hkeep q cs (h1.trans hq) hz
    refine((grownBy_setCell' _ _ _).block q ?_ hne).trans (h2.trans h1)
    rw[h1.trans hq] at h2
    exact(gLt h2)
   ·exact(((HS.out.alloc _).kept hgrow (HS.out.not_row (by decide) HR.out)).other (by omega) _).trans (show W.heap[w.heap.size+1+1+1]?=_ from HS.out).symm
   ·refine⟨⟨⟨⟨⟨_,hv2,?_,by simp,?_⟩,((HE.out.alloc _).kept hgrow (HE.out.not_row (by decide) HR.out)).other (by omega) _⟩,((HT.out.alloc _).kept hgrow (HT.out.not_row (by decide) HR.out)).other (by omega) _⟩,((HS.out.alloc _).kept hgrow (HS.out.not_row (by decide) HR.out)).other (by omega) _⟩,HB.out.trans hb2⟩
    ·rw[List.map_append,En.cs_append,lA]
     exact hr2
    ·intro y hy
     rcases List.mem_append.1 hy with h|h
     ·have:=HA.out _ h
      cases this
     ·have:=List.mem_singleton.1 h
      cases this
 case done=>
  rintro D zs W hD rfl ⟨⟨⟨⟨⟨v,hv,hrow,hn,hall⟩,bE1⟩,bT1⟩,bS1⟩,hB1⟩ hK
  have cV:=hv.cell
  have fV:=hv.frozen
  have cE:=bE1.cell
  have fE:=bE1.frozen
  have cT:=bT1.cell
  have fT:=bT1.frozen
  obtain⟨A,c,rfl⟩:∃A c,v=.slice A zs.length c:=by
   rcases hrow.2 with⟨h1,h2⟩|⟨g,cap,cur,h1,_⟩
   ·exact⟨none,0,by rw[h1,h2]⟩
   ·exact⟨_,_,h1⟩
  have HR:=Hd hrow
  have HV:=Hd hv
  have HB:=Hd hB1
  have HE:=Hd bE1
  have HT:=Hd bT1
  have HA:=Hd hall
  have HK:=Hd hK
  have HD:=Hd hD
  clear hrow hv hB1 bE1 bT1 bS1 hall hn hK hD
  gi_wp2
  obtain⟨W1,hW1⟩:∃W1,((W.setCell ⟨w.heap.size,0,none⟩ (.slice A zs.length c)).setCell ⟨w.heap.size+1,0,none⟩ (.int .i64 0)).setCell ⟨w.heap.size+1+1,0,none⟩ (.int .i64 0)=W1:=⟨_,rfl⟩
  have b1:Boxed W1 w.heap.size 83 (.slice A zs.length c):=by rw[←hW1];exact((HV.out.set _).other (by omega) _).other (by omega) _
  have b2:Boxed W1 (w.heap.size+1) 36 (.int .i64 0):=by rw[←hW1];exact((HE.out.other (by omega) _).set _).other (by omega) _
  have b3:Boxed W1 (w.heap.size+1+1) 3 (.int .i64 0):=by rw[←hW1];exact Boxed.set _ ((HT.out.other (by omega) _).other (by omega) _)
  have hK1:W1.heap[D]?=some (.deferred (some [])):=by
   have h1:=HD.out
   rw[←hW1]
   have hl:=(gLt HK.out)
   exact((grownBy_setCell' _ _ _).block D (by simpa using hl) (fun e=>by cases e;omega)).trans (((grownBy_setCell' _ _ _).block D (by simpa using hl) (fun e=>by cases e;omega)).trans (((grownBy_setCell' W _ _).block D hl (fun e=>by cases e;omega)).trans HK.out))
  have hb:Below w.heap.size w W1:=by
   rw[←hW1]
   exact((HB.out.setCell (p:=⟨w.heap.size,0,none⟩) nR _).setCell (p:=⟨w.heap.size+1,0,none⟩) (by simp) _).setCell (p:=⟨w.heap.size+1+1,0,none⟩) (by simp only;omega) _
  have hr:W1.ownsRow w.heap.size 92 4 (.slice A zs.length c) zs.length (dK.cs (zs.map Prod.fst)):=by
   rw[←hW1]
   have r1:=HR.out.kept (grownBy_setCell' W w.heap.size (.slice A zs.length c)) (.inr (HV.out.not_row (by decide) HR.out).symm)
   have r2:=r1.kept (grownBy_setCell' _ (w.heap.size+1) (.int .i64 0)) (.inr ((HE.out.other (by omega) _).not_row (by decide) r1).symm)
   exact r2.kept (grownBy_setCell' _ (w.heap.size+1+1) (.int .i64 0)) (.inr (((HT.out.other (by omega) _).other (by omega) _).not_row (by decide) r2).symm)
  refine⟨by simp,.inl ⟨_,_,rfl,by rw[hW1];exact run_takeDeferred hK1,?_⟩⟩
  have c1:=cell_kept b1.cell (grownBy_putObj' _ D (.deferred none)) (fun r e=>by cases e;exact⟨_,hK1,rfl⟩)
  have c2:=cell_kept b2.cell (grownBy_putObj' _ D (.deferred none)) (fun r e=>by cases e;exact⟨_,hK1,rfl⟩)
  have c3:=cell_kept b3.cell (grownBy_putObj' _ D (.deferred none)) (fun r e=>by cases e;exact⟨_,hK1,rfl⟩)
  refine⟨.tuple #[.slice A zs.length c,.int .i64 0,.int .i64 0],by simp[results,results39,go_sem,c1,c2,c3],H0.out HA.out _ _ ⟨A,c,rfl,?_,hb.trans (belowK_b (w:=w) nR W1 D _ _ (by have:=HD.out;omega) hK1 rfl rfl)⟩⟩
  have:=ownsRow_putObj hr (.deferred none) hK1 rfl
  unfold En.Own
  rw[List.length_map]
  exact this
 case stop=>
  rintro D c pre W hD hpre ⟨⟨⟨⟨rfl,pre',x,hp,hp1,hp2,bT1⟩,bE1⟩,hv⟩,hB1⟩ hK
  have HK:=Hd hK
  have HX:=Hd (H1.out pre' x (by rw[←hp];exact hpre) hp1 hp2)
  clear hp1 hp2 hp hpre hK
  gi_wp2
  refine⟨by simp,.inl ⟨_,_,rfl,run_takeDeferred HK.out,?_⟩⟩
  have c1:=cell_kept hv.cell (grownBy_putObj' _ D (.deferred none)) (fun r e=>by cases e;exact⟨_,HK.out,rfl⟩)
  have c2:=cell_kept bE1.cell (grownBy_putObj' _ D (.deferred none)) (fun r e=>by cases e;exact⟨_,HK.out,rfl⟩)
  have c3:=cell_kept bT1.cell (grownBy_putObj' _ D (.deferred none)) (fun r e=>by cases e;exact⟨_,HK.out,rfl⟩)
  refine⟨.tuple #[.slice none 0 0,.int .i64 61,.int .i64 x.1.a],by simp[results,results39,go_sem,c1,c2,c3],HX.out _ _ ⟨none,0,rfl,World.ownsRow_nil _ _ _ _,hB1.trans (belowK_b (w:=w) nR W D _ _ (by omega) HK.out rfl rfl)⟩⟩
end Go.Proofs.YtlibhkkckgkkkaaGreatDoor.Tf
namespace Go.Proofs.YtlibhkkckgkkkaaGreatDoor.Tf
open Go.RowKit Go.Proofs.YtlibhkkckgkkkaaGreatDoor.Mem Go.Proofs.YtlibhkkckgkkkaaGreatDoor.Boo Go.Proofs.Tryz
theorem aO4 (rb:Nat) (v0 v1:Value) (w:World) (h:w.heap[rb]?=some (.cells #[v0,v1,.string ⟨#[]⟩] 342 (0,0))):Calls prog 247 #[.pointer (some ⟨rb,0,none⟩)] w fun e w'=>e=.returned (.tuple #[.string ⟨#[]⟩,.bool false,.bool false])∧w=w':=by
 have c2:=cV h 2 (.string ⟨#[]⟩)
 clear h
 go_enter func247,ntmps247
 go_wp2_with fail
 exact bodyPost_ret (v:=.tuple #[.string ⟨#[]⟩,.bool false,.bool false]) (by simp[results,results247,go_sem]) rfl ⟨rfl,rfl⟩
theorem mF (rb:Nat) (v0 v1:Value) (s hd ck:ByteArray) (a b n q:Nat) (w:World) (h:w.heap[rb]?=some (.cells #[v0,v1,.string s] 342 (0,0))) (hs:n+2≤s.size) (hs2:s.size≤1000000) (h2:2≤n)
 (ha:(s[0]'(by omega)).toNat=a) (hb:(s[1]'(by omega)).toNat=b) (hn:n=a * 256+b+2) (hh:s.extract 0 n=hd) (hc:s.extract n (n+2)=ck) (hq:wrap64 (nA hd.data.toList)=(q:Int)) (hq2:q≤65535) (hck:dC q=ck):
 Calls prog 247 #[.pointer (some ⟨rb,0,none⟩)] w (Ret (.tuple #[.string hd,.bool true,.bool true]) w):=by
 have c2:=cV h 2 (.string s)
 have HSU:Hid (∀W,Calls prog 293 #[.string hd] W fun e w'=>e=.returned (.int .i64 (q:Int))∧W=w'):=Hd (fun W=>by
  rw[←hq]
  exact aBk hd (by rw[←hh,ByteArray.size_extract];omega) W)
 have HBY:Hid (∀W,Calls prog 292 #[.int .i64 (q:Int)] W (Ret (.string ck) W)):=Hd (fun W=>by rw[←hck];exact uD q hq2 W)
 have z0:(0:Int)<(s.size:Int):=by omega
 have z1:(1:Int)<(s.size:Int):=by omega
 have z2:¬(s.size:Int)<2:=by omega
 obtain⟨N,hN⟩:∃N,n+2=N:=⟨_,rfl⟩
 rw[hN] at hc
 have z3:¬(s.size:Int)<(N:Int):=by omega
 have z5:(n:Int)+2=(N:Int):=by omega
 have z6:wrap64 (N:Int)=(N:Int):=Mem.w64 (by omega) (by omega)
 have z7:IntKind.i64.wrap (N:Int)=(N:Int):=IntWalk.i64_in _ ⟨by omega,by omega⟩
 have hsl:∀W,(Instr.slice 9 (.string s) (some (.int .i64 (n:Int))) (some (.int .i64 (N:Int))) none).run prog W=.ok (.string ck) W:=fun W=>by
  rw[run_slice_string (P:=prog) W 9 s .i64 .i64 n N (by kernel_rfl) (by omega) (by omega) (by omega)]
  simp[hc]
 have y0:(0:Int)≤(n:Int):=by omega
 have y1:(n:Int)≤(N:Int):=by omega
 have y2:(N:Int)≤(s.size:Int):=by omega
 have y3:(0:Int)≤(N:Int):=by omega
 have z4:(a:Int) * 256+(b:Int)+2=(n:Int):=by omega
 have hp0:0<s.size:=by omega
 have hp1:1<s.size:=by omega
 have ea:((s[0]'hp0).toNat:Int)=(a:Int):=by rw[ha]
 have eb:((s[1]'hp1).toNat:Int)=(b:Int):=by rw[hb]
 have e1:IntKind.i64.wrap (a:Int)=(a:Int):=IntWalk.i64_in _ ⟨by omega,by omega⟩
 have e2:IntKind.i64.wrap ((a:Int) * 256)=(a:Int) * 256:=IntWalk.i64_in _ ⟨by omega,by omega⟩
 have e5:IntKind.i64.wrap (b:Int)=(b:Int):=IntWalk.i64_in _ ⟨by omega,by omega⟩
 have e3:IntKind.i64.wrap ((a:Int) * 256+(b:Int))=(a:Int) * 256+(b:Int):=IntWalk.i64_in _ ⟨by omega,by omega⟩
 have e4:IntKind.i64.wrap ((a:Int) * 256+(b:Int)+2)=(n:Int):=by rw[z4];exact IntWalk.i64_in _ ⟨by omega,by omega⟩
 clear h hq hck ha hb hn z4 hN
 go_enter func247,ntmps247
 go_wp2_with fail
 go_quiet (fail)
 go_wp2_with fail
 go_region_held3 (fun W'=>W'.cell? ⟨rb,2,none⟩=some (.string s)) (go_keep) (first
  |(go_at_call 293;go_must (refine(HSU.out _).mono ?_;rintro e w' ⟨rfl,rfl⟩))
  |(go_at_call 292;go_must (refine(HBY.out _).mono ?_;rintro e W2 ⟨rfl,hb⟩;have k2:=bcl hb (rb) 2 (.string s);have HB2:=bst w hb;clear hb)))
 all_goals go_wp2_with fail
 all_goals exact bodyPost_ret (v:=.tuple #[.string hd,.bool true,.bool true]) (by simp[results,results247,go_sem]) rfl ⟨rfl,blw⟩
end Go.Proofs.YtlibhkkckgkkkaaGreatDoor.Tf
