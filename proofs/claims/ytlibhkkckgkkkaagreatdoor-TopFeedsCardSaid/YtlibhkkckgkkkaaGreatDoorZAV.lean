/- Part of the proof of TopFeeds: ParM PurA ParN PurN ParO ParP PurB TreC. -/
import Derived.Test.YtlibhkkckgkkkaaGreatDoorZAG
import Derived.Test.YtlibhkkckgkkkaaGreatDoorZAU
set_option maxHeartbeats 2000000
set_option maxRecDepth 100000
namespace Go.Proofs.YtlibhkkckgkkkaaGreatDoor.Tf
open Go.RowKit Go.Proofs.YtlibhkkckgkkkaaGreatDoor.Mem Go.Proofs.YtlibhkkckgkkkaaGreatDoor.Boo Go.Proofs.Tryz
theorem gM (W:World) (k n:Int) (s:ByteArray) (A:Option Addr) (m c:Nat):eI (W.alloc (.cells #[.int .i64 k,.int .i64 n,.string s,.slice A m c] 51)) W.heap.size k n s A m c:=aN W _
theorem eI.other {W:World} {X:Nat} {k n:Int} {s:ByteArray} {A:Option Addr} {m c:Nat} (h:eI W X k n s A m c) {p:Addr} (hp:X≠p.block) (u:Value):eI (W.setCell p u) X k n s A m c:=(aG W p u X hp).trans h
theorem eI.setA {W:World} {X:Nat} {k n:Int} {s:ByteArray} {A:Option Addr} {m c:Nat} (h:eI W X k n s A m c) (A':Option Addr) (m' c':Nat):eI (W.setCell ⟨X,3,none⟩ (.slice A' m' c')) X k n s A' m' c':=aE W X 3 _ 51 _ h
theorem aB1 (S:Nat→Prop) (W:World) (k n:Int) (s:ByteArray):bB S W (.node k n s []) ⟨k,n,s,none,0,0⟩:=bB.mk k n s [] none 0 [] rfl En.At.none_ (fun h=>absurd h (Nat.lt_irrefl 0)) (fun i x v h=>by simp at h)
theorem PS.gl {W:World} {P g:Nat} {t:Tok} {r:List Tok} (h:PS W P g (t::r)):g<W.heap.size:=by
 obtain⟨_,_,_,_,_,_,_,_,_,_,hg,_⟩:=h.head
 exact hg
theorem aEu (P g:Nat) (t:Tok) (r:List Tok) (cond:Bool) (w:World) (h:PS w P g (t::r)):Calls prog 41 #[.pointer (some ⟨P,0,none⟩),.int .i64 32,.bool cond] w (mS w P g (.error (81,t.a))):=by
 have HFA:Hid (∀W,PS W P g (t::r)→Calls prog 88 #[.pointer (some ⟨P,0,none⟩),.int .i64 81] W fun e w'=>e=iO 81 t.a∧Below W.heap.size W w'):=Hd (fun W hW=>sH P g t r 81 W hW)
 have HPS:=Hd h
 clear h
 go_enter func41,ntmps41
 go_wp2_with (go_at_call 88;go_must (refine rB w (HFA.out _ (HPS.out.below blw)) ?_;intro W HB))
 exact⟨rfl,rfl,Fr.of_below HB.out _⟩
theorem aIx (P g:Nat) (t:Tok) (r:List Tok) (cond:Bool) (wi:Int) (hwi:wi<32) (w:World) (h:PS w P g (t::r)) (hb:fJ cond t=none):Calls prog 41 #[.pointer (some ⟨P,0,none⟩),.int .i64 wi,.bool cond] w (mS w P g (.error (80,t.a))):=by
 have HBG:Hid (∀W,PS W P g (t::r)→Calls prog 89 #[.pointer (some ⟨P,0,none⟩),.bool cond] W fun e w'=>e=iO 80 t.a∧Below W.heap.size W w'):=Hd (fun W hW=>by
  have:=sR P g t r cond W hW
  rw[hb] at this
  exact this)
 have HPS:=Hd h
 have z1:¬(32:Int)≤wi:=by omega
 clear h hb hwi
 go_enter func41,ntmps41
 go_wp2_with (go_at_call 89;go_must (refine rB w (HBG.out _ (HPS.out.below blw)) ?_;intro W HB))
 exact⟨rfl,rfl,Fr.of_below HB.out _⟩
def yH (P g:Nat) (l:List Tok) (cond:Bool) (k:Int):Prop:=∀W,PS W P g l→Calls prog 89 #[.pointer (some ⟨P,0,none⟩),.bool cond] W (Ret (.int .i64 k) W)
theorem begP {P g:Nat} {t:Tok} {r:List Tok} {cond:Bool} {k:Int} (hb:fJ cond t=some k):yH P g (t::r) cond k:=fun W hW=>by
 have:=sR P g t r cond W hW
 rw[hb] at this
 exact this
theorem aP6 (P g:Nat) (t:Tok) (r:List Tok) (cond:Bool) (wi:Int) (hwi:wi<32) (w:World) (h:PS w P g (t::r)) (hb:fJ cond t=some 4):
 Calls prog 41 #[.pointer (some ⟨P,0,none⟩),.int .i64 wi,.bool cond] w (mS w P g (match bK 3 (fun _=>true) (t::r) with
  |.error e=>.error e
  |.ok (q,l1)=>.ok (.node 4 q.n ⟨#[]⟩ [],l1))):=by
 have HBG:=Hd (begP (P:=P) (g:=g) (r:=r) hb)
 have HTK:Hid (∀W,PS W P g (t::r)→Calls prog 42 #[.pointer (some ⟨P,0,none⟩),.int .i64 3,.func (.func 43) #[] #[]] W (gI W P g (fun t e _=>e=.returned t.v) (bK 3 (fun _=>true) (t::r)))):=Hd (fun W h1=>gV P g _ (by simp) 3 _ 43 #[] W aB6 h1 (fun t _ W2 _=>qT t W2))
 have HPS:=Hd h
 have HGl:=Hd h.gl
 have HPl:Hid (P<w.heap.size):=Hd (by obtain⟨o,q,hp,_⟩:=h;exact(gLt hp))
 have z1:¬(32:Int)≤wi:=by omega
 clear h hb hwi
 generalize bK 3 (fun _=>true) (t::r)=x at HTK ⊢
 rcases x with⟨er,a⟩|⟨⟨tk,ts,tn,ta⟩,l'⟩
 ·go_enter func41,ntmps41
  go_wp2_with (first
   |(go_at_call 89;go_must (refine(HBG.out _ (HPS.out.below blw)).mono ?_;rintro e W ⟨rfl,hb⟩;have HB:Hid (Below w.heap.size w (W.alloc (.cells #[.int .i64 4,.int .i64 0,.string ⟨#[]⟩,.slice none 0 0] 51))):=Hd (aB (aD (w:=w) blw hb) _);clear hb))
   |(go_at_call 42;go_must (refine(HTK.out _ (HPS.out.below blw)).mono ?_;rintro e W3 ⟨rfl,hf⟩;have HF:=Hd hf;clear hf)))
  exact⟨rfl,rfl,Fr.of_below_then HB.out HF.out⟩
 ·have F1:=aBi tk tn ta ts
  have HTK2:Hid (∀W,PS W P g (t::r)→Calls prog 42 #[.pointer (some ⟨P,0,none⟩),.int .i64 3,.func (.func 43) #[] #[]] W fun e w'=>e=.returned (.agg #[.int .i64 tk,.string ts,.int .i64 tn,.int .i64 ta])∧eH W P g l' w'):=HTK
  clear HTK
  go_enter func41,ntmps41
  go_wp2_with (first
   |(go_at_call 89;go_must (refine(HBG.out _ (HPS.out.below blw)).mono ?_;rintro e W ⟨rfl,hb⟩;have hr:=(gM w 0 0 ⟨#[]⟩ none 0 0).onBelow hb;have hs:=hb.size;have HB1:=bst w hb;have HBR:=Hd hr;have HRS:Hid (w.heap.size<W.heap.size):=Hd (by simp at hs;omega);clear hb hr hs))
   |(go_at_call 42;go_must (refine(HTK2.out _ (HPS.out.below blw)).mono ?_;rintro e W3 ⟨rfl,hf⟩;have hx:=(gM W 4 0 ⟨#[]⟩ none 0 0).fr hf.2 (by have:=HPl.out;have:=HRS.out;omega);have hr:=(HBR.out.onBelow (aB bR _)).fr hf.2 (by have:=HPl.out;omega);obtain⟨x0,x1,x2,x3,xf,xl⟩:=hx.cells;obtain⟨r0,r1,r2,r3,rf,rl⟩:=hr.cells;have HF:=Hd hf;have HX3:=Hd hx;have HR3:=Hd hr;have hne:¬W.heap.size=w.heap.size:=(by have:=HRS.out;omega);clear hf hx hr)))
  have L0:eH w P g l' W3:=⟨HF.out.1,Fr.of_below_then HB1.out (Fr.of_below_then (aB bR _) HF.out.2)⟩
  refine bodyPost_ret (v:=.agg #[.int .i64 4,.int .i64 tn,.string ⟨#[]⟩,.slice none 0 0]) (by simp[results,results41,go_sem, *]) rfl ⟨⟨⟨4,tn,⟨#[]⟩,none,0,0⟩,rfl,aB1 _ _ 4 tn ⟨#[]⟩⟩,?_⟩
  repeat(refine eH.set ?_ (by first|exact nR|exact Nat.le_of_lt HRS.out) HPl.out HGl.out _)
  exact L0
theorem aNj (P g:Nat) (t:Tok) (r:List Tok) (cond:Bool) (wi:Int) (hwi:wi<32) (w:World) (h:PS w P g (t::r)) (k:Int) (hk:k=1∨k=2) (hb:fJ cond t=some k):
 Calls prog 41 #[.pointer (some ⟨P,0,none⟩),.int .i64 wi,.bool cond] w (mS w P g (match bK 1 (fun _=>true) (t::r) with
  |.error e=>.error e
  |.ok (_,l1)=>.ok (.node k 0 ⟨#[]⟩ [],l1))):=by
 have HBG:=Hd (begP (P:=P) (g:=g) (r:=r) hb)
 have HTK:Hid (∀W,PS W P g (t::r)→Calls prog 42 #[.pointer (some ⟨P,0,none⟩),.int .i64 1,.func (.func 43) #[] #[]] W (gI W P g (fun t e _=>e=.returned t.v) (bK 1 (fun _=>true) (t::r)))):=Hd (fun W h1=>gV P g _ (by simp) 1 _ 43 #[] W aB6 h1 (fun t _ W2 _=>qT t W2))
 have HPS:=Hd h
 have HGl:=Hd h.gl
 have HPl:Hid (P<w.heap.size):=Hd (by obtain⟨o,q,hp,_⟩:=h;exact(gLt hp))
 have z1:¬(32:Int)≤wi:=by omega
 clear h hb hwi
 generalize bK 1 (fun _=>true) (t::r)=x at HTK ⊢
 rcases x with⟨er,a⟩|⟨⟨tk,ts,tn,ta⟩,l'⟩
 ·rcases hk with rfl|rfl
  ·go_enter func41,ntmps41
   go_wp2_with (first
    |(go_at_call 89;go_must (refine(HBG.out _ (HPS.out.below blw)).mono ?_;rintro e W ⟨rfl,hb⟩;have HB:Hid (Below w.heap.size w (W.alloc (.cells #[.int .i64 1,.int .i64 0,.string ⟨#[]⟩,.slice none 0 0] 51))):=Hd (aB (aD (w:=w) blw hb) _);clear hb))
    |(go_at_call 42;go_must (refine(HTK.out _ (HPS.out.below blw)).mono ?_;rintro e W3 ⟨rfl,hf⟩;have HF:=Hd hf;clear hf)))
   exact⟨rfl,rfl,Fr.of_below_then HB.out HF.out⟩
  ·go_enter func41,ntmps41
   go_wp2_with (first
    |(go_at_call 89;go_must (refine(HBG.out _ (HPS.out.below blw)).mono ?_;rintro e W ⟨rfl,hb⟩;have HB:Hid (Below w.heap.size w (W.alloc (.cells #[.int .i64 2,.int .i64 0,.string ⟨#[]⟩,.slice none 0 0] 51))):=Hd (aB (aD (w:=w) blw hb) _);clear hb))
    |(go_at_call 42;go_must (refine(HTK.out _ (HPS.out.below blw)).mono ?_;rintro e W3 ⟨rfl,hf⟩;have HF:=Hd hf;clear hf)))
   exact⟨rfl,rfl,Fr.of_below_then HB.out HF.out⟩
 ·have HTK2:Hid (∀W,PS W P g (t::r)→Calls prog 42 #[.pointer (some ⟨P,0,none⟩),.int .i64 1,.func (.func 43) #[] #[]] W fun e w'=>e=.returned (.agg #[.int .i64 tk,.string ts,.int .i64 tn,.int .i64 ta])∧eH W P g l' w'):=HTK
  clear HTK
  rcases hk with rfl|rfl
  ·go_enter func41,ntmps41
   go_wp2_with (first
    |(go_at_call 89;go_must (refine(HBG.out _ (HPS.out.below blw)).mono ?_;rintro e W ⟨rfl,hb⟩;have hr:=(gM w 0 0 ⟨#[]⟩ none 0 0).onBelow hb;have hs:=hb.size;have HB1:=bst w hb;have HBR:=Hd hr;have HRS:Hid (w.heap.size<W.heap.size):=Hd (by simp at hs;omega);clear hb hr hs))
    |(go_at_call 42;go_must (refine(HTK2.out _ (HPS.out.below blw)).mono ?_;rintro e W3 ⟨rfl,hf⟩;have hx:=(gM W 1 0 ⟨#[]⟩ none 0 0).fr hf.2 (by have:=HPl.out;have:=HRS.out;omega);have hr:=(HBR.out.onBelow (aB bR _)).fr hf.2 (by have:=HPl.out;omega);obtain⟨x0,x1,x2,x3,xf,xl⟩:=hx.cells;obtain⟨r0,r1,r2,r3,rf,rl⟩:=hr.cells;have HF:=Hd hf;have HX3:=Hd hx;have HR3:=Hd hr;have hne:¬W.heap.size=w.heap.size:=(by have:=HRS.out;omega);clear hf hx hr)))
   have L0:eH w P g l' W3:=⟨HF.out.1,Fr.of_below_then HB1.out (Fr.of_below_then (aB bR _) HF.out.2)⟩
   refine bodyPost_ret (v:=.agg #[.int .i64 1,.int .i64 0,.string ⟨#[]⟩,.slice none 0 0]) (by simp[results,results41,go_sem, *]) rfl ⟨⟨⟨1,0,⟨#[]⟩,none,0,0⟩,rfl,aB1 _ _ 1 0 ⟨#[]⟩⟩,?_⟩
   repeat(refine eH.set ?_ (by first|exact nR|exact Nat.le_of_lt HRS.out) HPl.out HGl.out _)
   exact L0
  ·go_enter func41,ntmps41
   go_wp2_with (first
    |(go_at_call 89;go_must (refine(HBG.out _ (HPS.out.below blw)).mono ?_;rintro e W ⟨rfl,hb⟩;have hr:=(gM w 0 0 ⟨#[]⟩ none 0 0).onBelow hb;have hs:=hb.size;have HB1:=bst w hb;have HBR:=Hd hr;have HRS:Hid (w.heap.size<W.heap.size):=Hd (by simp at hs;omega);clear hb hr hs))
    |(go_at_call 42;go_must (refine(HTK2.out _ (HPS.out.below blw)).mono ?_;rintro e W3 ⟨rfl,hf⟩;have hx:=(gM W 2 0 ⟨#[]⟩ none 0 0).fr hf.2 (by have:=HPl.out;have:=HRS.out;omega);have hr:=(HBR.out.onBelow (aB bR _)).fr hf.2 (by have:=HPl.out;omega);obtain⟨x0,x1,x2,x3,xf,xl⟩:=hx.cells;obtain⟨r0,r1,r2,r3,rf,rl⟩:=hr.cells;have HF:=Hd hf;have HX3:=Hd hx;have HR3:=Hd hr;have hne:¬W.heap.size=w.heap.size:=(by have:=HRS.out;omega);clear hf hx hr)))
   have L0:eH w P g l' W3:=⟨HF.out.1,Fr.of_below_then HB1.out (Fr.of_below_then (aB bR _) HF.out.2)⟩
   refine bodyPost_ret (v:=.agg #[.int .i64 2,.int .i64 0,.string ⟨#[]⟩,.slice none 0 0]) (by simp[results,results41,go_sem, *]) rfl ⟨⟨⟨2,0,⟨#[]⟩,none,0,0⟩,rfl,aB1 _ _ 2 0 ⟨#[]⟩⟩,?_⟩
   repeat(refine eH.set ?_ (by first|exact nR|exact Nat.le_of_lt HRS.out) HPl.out HGl.out _)
   exact L0
end Go.Proofs.YtlibhkkckgkkkaaGreatDoor.Tf
namespace Go.Proofs.YtlibhkkckgkkkaaGreatDoor.Tf
open Go.RowKit Go.Proofs.YtlibhkkckgkkkaaGreatDoor.Mem Go.Proofs.YtlibhkkckgkkkaaGreatDoor.Boo Go.Proofs.YtlibhkkckgkkkaaGreatDoor.MoneyA
structure Pc where
 k:Int
 s:List UInt8
 n:Int
 t:Bool
def cP:List Pc→List UInt8
 |[]=>[]
 |p::r=>p.s++((if p.t then[32] else[])++cP r)
def fitP (p:Pc) (t:Tok):Prop:=t.k=p.k∧t.s=bl p.s∧t.n=p.n
def jA:List Pc→List Tok→Prop
 |[],[t]=>t.k=5∧t.s=bl []
 |p::ps,t::l=>fitP p t∧jA ps l
 |_,_=>False
def parB (c:UInt8):Bool:=inB qJ.data.toList c
def OkW (p:Pc):Prop:=p.k≠5∧p.s≠[]∧(∀c∈p.s,parB c=true)∧kE (bl p.s)=(⟨p.k,bl p.s,p.n,0⟩,true)
def OkS (p:Pc):Prop:=p.k=4∧p.n=0∧∃c,p.s=[c]∧(c=40∨c=41∨c=44)
def aKp (p:Pc) (r:List Pc):Prop:=p.t=true∨r=[]∨∃q r',r=q::r'∧OkS q
def Okp:List Pc→Prop
 |[]=>True
 |p::r=>(OkS p∨(OkW p∧aKp p r))∧Okp r
theorem eE (l:List UInt8):(bl l).data.toList=l:=by simp
theorem aIv (s:ByteArray) (i:Nat):s.extract i s.size=bl (s.data.toList.drop i):=by
 apply ByteArray.ext
 apply Array.ext'
 show(s.extract i s.size).data.toList=_
 rw[eE (s.data.toList.drop i),ByteArray.data_extract,Array.toList_extract,List.extract_eq_take_drop,List.take_of_length_le]
 rw[List.length_drop,bI]
 exact nR
theorem aB5 (l m:List UInt8) (k:Nat) (hk:k=l.length):(bl (l++m)).extract 0 k=bl l:=by
 apply ByteArray.ext
 apply Array.ext'
 show((bl (l++m)).extract 0 k).data.toList=_
 rw[eE l,ByteArray.data_extract,Array.toList_extract,List.extract_eq_take_drop]
 simp[hk]
theorem aP5 {p:UInt8→Bool} {l m:List UInt8} (hl:∀c∈l,p c=false) (hm:m=[]∨∃c r,m=c::r∧p c=true):(if fI p (l++m)=-1 then((l++m).length:Int) else fI p (l++m))=l.length:=by
 rcases hm with rfl|⟨c,r,rfl,hc⟩
 ·rw[List.append_nil,jW (fun j y hj hy=>hl y (List.mem_of_getElem? hy)),if_pos rfl]
 ·rw[pM (k:=l.length) (x:=c) (by simp) hc (fun j y hj hy=>?_)]
  ·rw[if_neg (by omega)]
  ·rw[List.getElem?_append_left hj] at hy
   exact hl y (List.mem_of_getElem? hy)
theorem wB {l m:List UInt8} (t:ByteArray) (hl:∀c∈l,inB t.data.toList c=true) (hm:m=[]∨∃c r,m=c::r∧inB t.data.toList c=false):jI (bl (l++m)) t=l.length:=by
 unfold jI
 rw[eE]
 have:=aP5 (p:=iT t.data.toList) (l:=l) (m:=m) (fun c hc=>by simp[iT,hl c hc]) (hm.imp id fun⟨c,r,h,h2⟩=>⟨c,r,h,by simp[iT,h2]⟩)
 rw[show((bl (l++m)).size:Int)=((l++m).length:Int) from by rw[eM]]
 exact this
theorem aBq:∀c:UInt8,parB c=true→inB yF.data.toList c=false∧inB qL.data.toList c=false:=by
 intro c
 have H:∀n:Fin 256,parB (UInt8.ofNat n.val)=true→inB yF.data.toList (UInt8.ofNat n.val)=false∧inB qL.data.toList (UInt8.ofNat n.val)=false:=by decide +kernel
 have:=H ⟨c.toNat,c.toNat_lt⟩
 simpa using this
theorem aAk:dB (bl [])=(⟨5,bl [],0,0⟩,true):=by
 unfold dB
 rw[if_pos (by rw[eM];rfl)]
theorem aAi (c:UInt8) (hc:c=40∨c=41∨c=44) (m:List UInt8):dB (bl (c::m))=(⟨4,bl [c],0,0⟩,true):=by
 unfold dB
 rw[if_neg (by rw[eM];simp),if_pos (by rw[eE];rcases hc with rfl|rfl|rfl <;> rfl)]
 have:=aB5 [c] m 1 rfl
 simp only[List.cons_append,List.nil_append] at this
 rw[this]
theorem aAh (p:Pc) (h:OkW p) (m:List UInt8) (hm:m=[]∨∃c r,m=c::r∧inB qJ.data.toList c=false):dB (bl (p.s++m))=(⟨p.k,bl p.s,p.n,0⟩,true):=by
 obtain⟨_,h0,ha,hr⟩:=h
 have hlen:0<p.s.length:=by cases hp:p.s with
  |nil=>exact absurd hp h0
  |cons a b=>simp
 unfold dB
 rw[if_neg (by rw[eM,lA];omega),if_neg]
 ·rw[wB qJ ha hm,Int.toNat_natCast,aB5 _ _ _ rfl,hr]
 ·rw[eE]
  cases hp:p.s with
  |nil=>exact absurd hp h0
  |cons a b=>
   have:=(aBq a (ha a (by rw[hp];simp))).1
   simp[this]
theorem aEm {p:Pc} {r:List Pc} (h:aKp p r):((if p.t then[32] else[])++cP r:List UInt8)=[]∨∃c q,((if p.t then[32] else[])++cP r:List UInt8)=c::q∧inB qJ.data.toList c=false:=by
 cases ht:p.t with
 |true=>exact .inr ⟨32,cP r,by simp,by decide⟩
 |false=>
  rcases h with h|rfl|⟨q,r',rfl,_,_,c,hs,hc⟩
  ·rw[ht] at h;cases h
  ·exact .inl rfl
  ·refine .inr ⟨c,_,by simp[cP,hs];rfl,by rcases hc with rfl|rfl|rfl <;> decide⟩
theorem tR {p:Pc} {r:List Pc} (h:OkS p∨(OkW p∧aKp p r)):∃c q,cP (p::r)=c::q∧inB qL.data.toList c=false:=by
 rcases h with⟨_,_,c,hs,hc⟩|⟨⟨_,h0,ha,_⟩,_⟩
 ·exact⟨c,_,by simp[cP,hs];rfl,by rcases hc with rfl|rfl|rfl <;> decide⟩
 ·cases hp:p.s with
  |nil=>exact absurd hp h0
  |cons a b=>exact⟨a,_,by simp[cP,hp];rfl,(aBq a (ha a (by rw[hp];simp))).2⟩
theorem aBn (s:ByteArray) (i:Nat) (b:Bool) (m:List UInt8) (h:s.data.toList.drop i=(if b then[32] else[])++m) (hm:m=[]∨∃c r,m=c::r∧inB qL.data.toList c=false):fW s i=i+(if b then 1 else 0):=by
 unfold fW
 rw[aIv,h,wB qL (by cases b <;> simp;decide) hm]
 cases b <;> simp
theorem aFq (s:ByteArray) (i:Nat) (b:Bool) (m:List UInt8) (h:s.data.toList.drop i=(if b then[32] else[])++m) (hm:m=[]∨∃c r,m=c::r∧inB qL.data.toList c=false):gJ s i=({(dB (bl m)).1 with a:=((i+(if b then 1 else 0):Nat):Int)},(dB (bl m)).2):=by
 rw[rD,aBn s i b m h hm,aIv]
 have:s.data.toList.drop (i+(if b then 1 else 0))=m:=by
  rw[←List.drop_drop,h]
  cases b <;> simp
 rw[this]
theorem aHv (s:ByteArray) (ps:List Pc):∀(b:Bool) (i f:Nat),Okp ps→s.data.toList.drop i=(if b then[32] else[])++cP ps→ps.length<f→∃l:List Tok,iD f s i=l.map (fun t=>(t,true))∧jA ps l:=by
 induction ps with
 |nil=>
  intro b i f _ hd hf
  obtain⟨f,rfl⟩:∃g,f=g+1:=⟨f-1,by simp at hf;omega⟩
  have ht:=aFq s i b _ hd (.inl rfl)
  rw[show cP []=[] from rfl,aAk] at ht
  rw[kS _ _ _ (by rw[ht];exact .inr rfl),ht]
  exact⟨[_],rfl,rfl,rfl⟩
 |cons p r ih=>
  intro b i f hk hd hf
  obtain⟨f,rfl⟩:∃g,f=g+1:=⟨f-1,by simp at hf;omega⟩
  simp only[List.length_cons] at hf
  obtain⟨hp,hr⟩:=hk
  have ht:=aFq s i b _ hd (.inr (tR hp))
  have hfi:dB (bl (cP (p::r)))=(⟨p.k,bl p.s,p.n,0⟩,true)∧p.k≠5:=by
   rcases hp with⟨h1,h2,c,h3,h4⟩|⟨h1,h2⟩
   ·rw[cP,h3,h2,h1]
    exact⟨aAi c h4 _,by decide⟩
   ·exact⟨aAh p h1 _ (aEm h2),h1.1⟩
  rw[hfi.1] at ht
  have hn:fW s i=i+(if b then 1 else 0):=aBn s i b _ hd (.inr (tR hp))
  rw[mY _ _ _ (by rw[ht];exact fun h=>h.elim (fun h=>by cases h) hfi.2),ht,hn]
  obtain⟨l,hl,hfit⟩:=ih p.t (i+(if b then 1 else 0)+(bl p.s).size) f hr (by
   rw[←List.drop_drop,←List.drop_drop,hd,eM,cP]
   cases b <;> simp) (by omega)
  exact⟨_::l,by rw[hl];rfl,⟨rfl,rfl,rfl⟩,hfit⟩
theorem aIo (l:List Tok):(l.map (fun t=>(t,true))).find? (fun x=>!x.2)=none:=by
 rw[List.find?_eq_none]
 intro x hx
 obtain⟨t,_,rfl⟩:=List.mem_map.1 hx
 simp
theorem xC (ps:List Pc) (h:Okp ps):ps.length≤(cP ps).length:=by
 induction ps with
 |nil=>exact nR
 |cons p r ih=>
  have h1:0<p.s.length:=by
   rcases h.1 with⟨_,_,c,hs,_⟩|⟨⟨_,h0,_⟩,_⟩
   ·rw[hs];exact Nat.one_pos
   ·exact List.length_pos_iff.2 h0
  have:=ih h.2
  simp only[cP,List.length_cons,lA]
  omega
theorem zP (ps:List Pc) (h:Okp ps) (hl:(cP ps).length≤2000):∃l,lexL (bl (cP ps))=.ok l∧jA ps l:=by
 have hsz:(bl (cP ps)).size=(cP ps).length:=eM _
 obtain⟨l,h1,h2⟩:=aHv (bl (cP ps)) ps false 0 ((bl (cP ps)).size+1) h (by simp) (by have:=xC ps h;omega)
 refine⟨l,?_,h2⟩
 unfold lexL
 rw[if_neg (by omega),h1,aIo]
 simp only[List.map_map]
 exact congrArg Except.ok (List.map_id _)
end Go.Proofs.YtlibhkkckgkkkaaGreatDoor.Tf
namespace Go.Proofs.YtlibhkkckgkkkaaGreatDoor.Tf
open Go.RowKit Go.Proofs.YtlibhkkckgkkkaaGreatDoor.Mem Go.Proofs.YtlibhkkckgkkkaaGreatDoor.Boo Go.Proofs.Tryz
theorem eI.fr2 {W W':World} {X P Q:Nat} {k n:Int} {s:ByteArray} {A:Option Addr} {m c:Nat} (h:eI W X k n s A m c) (hf:Fr [P,Q] W W') (hne:X≠P) (hne2:X≠Q):eI W' X k n s A m c:=
 (hf.block X (gLt h) (by simp[hne,hne2])).trans h
theorem Fr.stepX {P X:Nat} {w w1 w2:World} {p:Addr} {u:Value} (h:Fr [P] w w1) (hX:w.heap.size≤X) (k:Fr [P,X] (w1.setCell p u) w2) (hp:p.block=X:=by rfl):Fr [P] w w2:=
 (h.set (p:=p) (.inr (by rw[hp];exact hX)) u).step k (fun x hx=>by simp at hx;rcases hx with rfl|rfl;exact .inl (by simp);exact .inr hX)
theorem aDy {W W':World} {base c:Nat} {A:Option Addr} {vs:List EV} {xs:List Ex} (k n:Int) (s:ByteArray) (hown:dX.Own 51 W base A c vs) (htr:iW (fun b=>base≤b) W xs vs) (hk:∀b,base≤b→b<W.heap.size→W'.heap[b]?=W.heap[b]?):
 bB (fun b=>base≤b) W' (.node k n s xs) ⟨k,n,s,A,xs.length,c⟩:=by
 refine bB.mk k n s xs A c vs htr.1.symm ?_ ?_ (fun i x v h1 h2=>(htr.2 i x v h1 h2).keep (fun b hb hl=>hk b hb hl))
 ·rcases hown.form with⟨rfl,rfl,rfl⟩|⟨q,rfl,hb,hl,_⟩
  ·exact En.At.none_
  ·exact jY hown.at_ (hk q hb hl)
 ·intro _ b o f e
  rcases hown.form with⟨rfl,rfl,rfl⟩|⟨q,rfl,hb,hl,_⟩
  ·cases e
  ·cases e;exact hb
theorem aNi (P g:Nat) (L:List Tok) (cond:Bool) (wi:Int) (hwi:wi<32) (w:World) (h:PS w P g L) (hPl:P<w.heap.size) (hGl:g<w.heap.size) (k:Int) (hk1:k≠1) (hk2:k≠2) (hk4:k≠4) (hBG:yH P g L cond k) (er a:Int) (hTK:∀W,PS W P g L→Calls prog 42 #[.pointer (some ⟨P,0,none⟩),.int .i64 1,.func (.func 43) #[] #[]] W (gI W P g (fun(t:Tok) e _=>e=.returned t.v) (.error (er,a)))):Calls prog 41 #[.pointer (some ⟨P,0,none⟩),.int .i64 wi,.bool cond] w (mS w P g (.error (er,a))):=by
 have HBG:=Hd hBG
 have HPS:=Hd h
 have HPl:=Hd hPl
 have HGl:=Hd hGl
 have z1:¬(32:Int)≤wi:=by omega
 have zk1:(k==1)=false:=bN hk1
 have zk2:(k==2)=false:=bN hk2
 have zk4:(k==4)=false:=bN hk4
 have HTK:Hid (∀W,PS W P g L→Calls prog 42 #[.pointer (some ⟨P,0,none⟩),.int .i64 1,.func (.func 43) #[] #[]] W fun e w'=>e=iO er a∧Fr [P] W w'):=Hd hTK
 clear h hPl hGl hwi hBG hTK
 go_enter func41,ntmps41
 go_wp2_with (first
  |(go_at_call 89;go_must (refine(HBG.out _ (HPS.out.below blw)).mono ?_;rintro e W ⟨rfl,hb⟩;have hr:=(gM w 0 0 ⟨#[]⟩ none 0 0).onBelow hb;have hs:=hb.size;have HB1:Hid (Below w.heap.size w (W.alloc (.cells #[.int .i64 k,.int .i64 0,.string ⟨#[]⟩,.slice none 0 0] 51))):=Hd (aB (aD (w:=w) blw hb) _);have HBR:=Hd (hr.onBelow (aB bR (.cells #[.int .i64 k,.int .i64 0,.string ⟨#[]⟩,.slice none 0 0] 51)));have HBX:=Hd (gM W k 0 ⟨#[]⟩ none 0 0);have HRS:Hid (w.heap.size<W.heap.size):=Hd (by simp at hs;omega);clear hb hr hs))
  |(go_at_call 42;go_must (refine(HTK.out _ (HPS.out.below blw)).mono ?_;rintro e W3 ⟨rfl,hf⟩;have HF3:=Hd hf;clear hf)))
 exact⟨rfl,rfl,Fr.of_below_then HB1.out HF3.out⟩
theorem aNh (P g:Nat) (L:List Tok) (cond:Bool) (wi:Int) (hwi:wi<32) (w:World) (h:PS w P g L) (hPl:P<w.heap.size) (hGl:g<w.heap.size) (k:Int) (hk1:k≠1) (hk2:k≠2) (hk4:k≠4) (hBG:yH P g L cond k) (tk tn ta:Int) (ts:ByteArray) (l1:List Tok) (er a:Int) (hTK:∀W,PS W P g L→Calls prog 42 #[.pointer (some ⟨P,0,none⟩),.int .i64 1,.func (.func 43) #[] #[]] W (gI W P g (fun(t:Tok) e _=>e=.returned t.v) (.ok (⟨tk,ts,tn,ta⟩,l1)))) (hS1:∀W,PS W P g l1→Calls prog 90 #[.pointer (some ⟨P,0,none⟩),.string ⟨#[40]⟩] W (gI W P g (fun(_:Tok) e _=>∃v,e=.returned v) (.error (er,a)))):Calls prog 41 #[.pointer (some ⟨P,0,none⟩),.int .i64 wi,.bool cond] w (mS w P g (.error (er,a))):=by
 have HBG:=Hd hBG
 have HPS:=Hd h
 have HPl:=Hd hPl
 have HGl:=Hd hGl
 have z1:¬(32:Int)≤wi:=by omega
 have zk1:(k==1)=false:=bN hk1
 have zk2:(k==2)=false:=bN hk2
 have zk4:(k==4)=false:=bN hk4
 have HTK:Hid (∀W,PS W P g L→Calls prog 42 #[.pointer (some ⟨P,0,none⟩),.int .i64 1,.func (.func 43) #[] #[]] W fun e w'=>e=.returned (.agg #[.int .i64 tk,.string ts,.int .i64 tn,.int .i64 ta])∧eH W P g l1 w'):=Hd hTK
 have HS1:Hid (∀W,PS W P g l1→Calls prog 90 #[.pointer (some ⟨P,0,none⟩),.string ⟨#[40]⟩] W fun e w'=>e=iO er a∧Fr [P] W w'):=Hd hS1
 clear h hPl hGl hwi hBG hTK hS1
 go_enter func41,ntmps41
 go_wp2_with (first
  |(go_at_call 89;go_must (refine(HBG.out _ (HPS.out.below blw)).mono ?_;rintro e W ⟨rfl,hb⟩;have hr:=(gM w 0 0 ⟨#[]⟩ none 0 0).onBelow hb;have hs:=hb.size;have HB1:Hid (Below w.heap.size w (W.alloc (.cells #[.int .i64 k,.int .i64 0,.string ⟨#[]⟩,.slice none 0 0] 51))):=Hd (aB (aD (w:=w) blw hb) _);have HBR:=Hd (hr.onBelow (aB bR (.cells #[.int .i64 k,.int .i64 0,.string ⟨#[]⟩,.slice none 0 0] 51)));have HBX:=Hd (gM W k 0 ⟨#[]⟩ none 0 0);have HRS:Hid (w.heap.size<W.heap.size):=Hd (by simp at hs;omega);clear hb hr hs))
  |(go_at_call 42;go_must (refine(HTK.out _ (HPS.out.below HB1.out)).mono ?_;rintro e W3 ⟨rfl,hf⟩;have hx:=HBX.out.fr hf.2 (by have:=HPl.out;have:=HRS.out;omega);have hr:=HBR.out.fr hf.2 (by have:=HPl.out;omega);obtain⟨x0,x1,x2,x3,xf,xl⟩:=hx.cells;have HF3:=Hd hf;have HX3:=Hd hx;have HR3:=Hd hr;clear hf hx hr))
  |(go_at_call 90;refine(HS1.out _ HF3.out.1).mono ?_;rintro e W4 ⟨rfl,hf⟩;have HF4:=Hd hf;clear hf))
 exact⟨rfl,rfl,(Fr.of_below_then HB1.out HF3.out.2).step HF4.out (New.refl _ _)⟩
theorem aNg (P g:Nat) (L:List Tok) (cond:Bool) (wi:Int) (hwi:wi<32) (w:World) (h:PS w P g L) (hPl:P<w.heap.size) (hGl:g<w.heap.size) (k:Int) (hk1:k≠1) (hk2:k≠2) (hk4:k≠4) (hBG:yH P g L cond k) (tk tn ta:Int) (ts:ByteArray) (l1:List Tok) (t2:Tok) (l2:List Tok) (er a:Int) (hTK:∀W,PS W P g L→Calls prog 42 #[.pointer (some ⟨P,0,none⟩),.int .i64 1,.func (.func 43) #[] #[]] W (gI W P g (fun(t:Tok) e _=>e=.returned t.v) (.ok (⟨tk,ts,tn,ta⟩,l1)))) (hS1:∀W,PS W P g l1→Calls prog 90 #[.pointer (some ⟨P,0,none⟩),.string ⟨#[40]⟩] W (gI W P g (fun(_:Tok) e _=>∃v,e=.returned v) (.ok (t2,l2)))) (hAR:∀W,PS W P g l2→Calls prog 91 #[.pointer (some ⟨P,0,none⟩),.int .i64 k,.int .i64 wi] W (AOut W P g (.error (er,a)))):Calls prog 41 #[.pointer (some ⟨P,0,none⟩),.int .i64 wi,.bool cond] w (mS w P g (.error (er,a))):=by
 have HBG:=Hd hBG
 have HPS:=Hd h
 have HPl:=Hd hPl
 have HGl:=Hd hGl
 have z1:¬(32:Int)≤wi:=by omega
 have zk1:(k==1)=false:=bN hk1
 have zk2:(k==2)=false:=bN hk2
 have zk4:(k==4)=false:=bN hk4
 have HTK:Hid (∀W,PS W P g L→Calls prog 42 #[.pointer (some ⟨P,0,none⟩),.int .i64 1,.func (.func 43) #[] #[]] W fun e w'=>e=.returned (.agg #[.int .i64 tk,.string ts,.int .i64 tn,.int .i64 ta])∧eH W P g l1 w'):=Hd hTK
 have HS1:Hid (∀W,PS W P g l1→Calls prog 90 #[.pointer (some ⟨P,0,none⟩),.string ⟨#[40]⟩] W fun e w'=>(∃v,e=.returned v)∧eH W P g l2 w'):=Hd hS1
 have HAR:Hid (∀W,PS W P g l2→Calls prog 91 #[.pointer (some ⟨P,0,none⟩),.int .i64 k,.int .i64 wi] W fun e w'=>e=iO er a∧Fr [P] W w'):=Hd hAR
 clear h hPl hGl hwi hBG hTK hS1 hAR
 go_enter func41,ntmps41
 go_wp2_with (first
  |(go_at_call 89;go_must (refine(HBG.out _ (HPS.out.below blw)).mono ?_;rintro e W ⟨rfl,hb⟩;have hr:=(gM w 0 0 ⟨#[]⟩ none 0 0).onBelow hb;have hs:=hb.size;have HB1:Hid (Below w.heap.size w (W.alloc (.cells #[.int .i64 k,.int .i64 0,.string ⟨#[]⟩,.slice none 0 0] 51))):=Hd (aB (aD (w:=w) blw hb) _);have HBR:=Hd (hr.onBelow (aB bR (.cells #[.int .i64 k,.int .i64 0,.string ⟨#[]⟩,.slice none 0 0] 51)));have HBX:=Hd (gM W k 0 ⟨#[]⟩ none 0 0);have HRS:Hid (w.heap.size<W.heap.size):=Hd (by simp at hs;omega);clear hb hr hs))
  |(go_at_call 42;go_must (refine(HTK.out _ (HPS.out.below HB1.out)).mono ?_;rintro e W3 ⟨rfl,hf⟩;have hx:=HBX.out.fr hf.2 (by have:=HPl.out;have:=HRS.out;omega);have hr:=HBR.out.fr hf.2 (by have:=HPl.out;omega);obtain⟨x0,x1,x2,x3,xf,xl⟩:=hx.cells;have HF3:=Hd hf;have HX3:=Hd hx;have HR3:=Hd hr;clear hf hx hr))
  |(go_at_call 90;refine(HS1.out _ HF3.out.1).mono ?_;rintro e W4 ⟨⟨v4,rfl⟩,hf⟩;have hx:=HX3.out.fr hf.2 (by have:=HPl.out;have:=HRS.out;omega);have hr:=HR3.out.fr hf.2 (by have:=HPl.out;omega);obtain⟨y0,y1,y2,y3,yf,yl⟩:=hx.cells;have HF4:=Hd hf;have HX4:=Hd hx;have HR4:=Hd hr;clear hf hx hr)
  |(go_at_call 91;go_must (refine(HAR.out _ HF4.out.1).mono ?_;rintro e W5 ⟨rfl,hf⟩;have HF5:=Hd hf;clear hf)))
 exact⟨rfl,rfl,((Fr.of_below_then HB1.out HF3.out.2).step HF4.out.2 (New.refl _ _)).step HF5.out (New.refl _ _)⟩
theorem aNf (P g:Nat) (L:List Tok) (cond:Bool) (wi:Int) (hwi:wi<32) (w:World) (h:PS w P g L) (hPl:P<w.heap.size) (hGl:g<w.heap.size) (k:Int) (hk1:k≠1) (hk2:k≠2) (hk4:k≠4) (hBG:yH P g L cond k) (tk tn ta:Int) (ts:ByteArray) (l1:List Tok) (t2:Tok) (l2:List Tok) (xs:List Ex) (l3:List Tok) (er a:Int) (hTK:∀W,PS W P g L→Calls prog 42 #[.pointer (some ⟨P,0,none⟩),.int .i64 1,.func (.func 43) #[] #[]] W (gI W P g (fun(t:Tok) e _=>e=.returned t.v) (.ok (⟨tk,ts,tn,ta⟩,l1)))) (hS1:∀W,PS W P g l1→Calls prog 90 #[.pointer (some ⟨P,0,none⟩),.string ⟨#[40]⟩] W (gI W P g (fun(_:Tok) e _=>∃v,e=.returned v) (.ok (t2,l2)))) (hAR:∀W,PS W P g l2→Calls prog 91 #[.pointer (some ⟨P,0,none⟩),.int .i64 k,.int .i64 wi] W (AOut W P g (.ok (xs,l3)))) (hRE:∀W X A m c,PS W P g l3→eI W X k 0 ⟨#[]⟩ A m c→X≠P→X≠g→Calls prog 92 #[.pointer (some ⟨P,0,none⟩),.pointer (some ⟨X,0,none⟩)] W (sZ W P g X k A m c (.error (er,a)))):Calls prog 41 #[.pointer (some ⟨P,0,none⟩),.int .i64 wi,.bool cond] w (mS w P g (.error (er,a))):=by
 have HBG:=Hd hBG
 have HPS:=Hd h
 have HPl:=Hd hPl
 have HGl:=Hd hGl
 have z1:¬(32:Int)≤wi:=by omega
 have zk1:(k==1)=false:=bN hk1
 have zk2:(k==2)=false:=bN hk2
 have zk4:(k==4)=false:=bN hk4
 have HTK:Hid (∀W,PS W P g L→Calls prog 42 #[.pointer (some ⟨P,0,none⟩),.int .i64 1,.func (.func 43) #[] #[]] W fun e w'=>e=.returned (.agg #[.int .i64 tk,.string ts,.int .i64 tn,.int .i64 ta])∧eH W P g l1 w'):=Hd hTK
 have HS1:Hid (∀W,PS W P g l1→Calls prog 90 #[.pointer (some ⟨P,0,none⟩),.string ⟨#[40]⟩] W fun e w'=>(∃v,e=.returned v)∧eH W P g l2 w'):=Hd hS1
 have HAR:Hid (∀W,PS W P g l2→Calls prog 91 #[.pointer (some ⟨P,0,none⟩),.int .i64 k,.int .i64 wi] W fun e w'=>(∃A c vs,e=.returned (.slice A xs.length c)∧dX.Own 51 w' W.heap.size A c vs∧iW (fun b=>W.heap.size≤b) w' xs vs)∧eH W P g l3 w'):=Hd hAR
 have HRE:Hid (∀W X A m c,PS W P g l3→eI W X k 0 ⟨#[]⟩ A m c→X≠P→X≠g→Calls prog 92 #[.pointer (some ⟨P,0,none⟩),.pointer (some ⟨X,0,none⟩)] W fun e w'=>e=iO er a∧Fr [P,X] W w'):=Hd hRE
 clear h hPl hGl hwi hBG hTK hS1 hAR hRE
 go_enter func41,ntmps41
 go_wp2_with (first
  |(go_at_call 89;go_must (refine(HBG.out _ (HPS.out.below blw)).mono ?_;rintro e W ⟨rfl,hb⟩;have hr:=(gM w 0 0 ⟨#[]⟩ none 0 0).onBelow hb;have hs:=hb.size;have HB1:Hid (Below w.heap.size w (W.alloc (.cells #[.int .i64 k,.int .i64 0,.string ⟨#[]⟩,.slice none 0 0] 51))):=Hd (aB (aD (w:=w) blw hb) _);have HBR:=Hd (hr.onBelow (aB bR (.cells #[.int .i64 k,.int .i64 0,.string ⟨#[]⟩,.slice none 0 0] 51)));have HBX:=Hd (gM W k 0 ⟨#[]⟩ none 0 0);have HRS:Hid (w.heap.size<W.heap.size):=Hd (by simp at hs;omega);clear hb hr hs))
  |(go_at_call 42;go_must (refine(HTK.out _ (HPS.out.below HB1.out)).mono ?_;rintro e W3 ⟨rfl,hf⟩;have hx:=HBX.out.fr hf.2 (by have:=HPl.out;have:=HRS.out;omega);have hr:=HBR.out.fr hf.2 (by have:=HPl.out;omega);obtain⟨x0,x1,x2,x3,xf,xl⟩:=hx.cells;have HF3:=Hd hf;have HX3:=Hd hx;have HR3:=Hd hr;clear hf hx hr))
  |(go_at_call 90;refine(HS1.out _ HF3.out.1).mono ?_;rintro e W4 ⟨⟨v4,rfl⟩,hf⟩;have hx:=HX3.out.fr hf.2 (by have:=HPl.out;have:=HRS.out;omega);have hr:=HR3.out.fr hf.2 (by have:=HPl.out;omega);obtain⟨y0,y1,y2,y3,yf,yl⟩:=hx.cells;have HF4:=Hd hf;have HX4:=Hd hx;have HR4:=Hd hr;clear hf hx hr)
  |(go_at_call 91;go_must (refine(HAR.out _ HF4.out.1).mono ?_;rintro e W5 ⟨⟨A,c,vs,rfl,hown,htr⟩,hf⟩;have hx:=HX4.out.fr hf.2 (by have:=HPl.out;have:=HRS.out;omega);have hr:=HR4.out.fr hf.2 (by have:=HPl.out;omega);obtain⟨q0,q1,q2,q3,qf,ql⟩:=hx.cells;have HF5:=Hd hf;have HX5:=Hd (hx.setA A xs.length c);have HR5:=Hd (hr.other (p:=⟨W.heap.size,3,none⟩) (by have:=HRS.out;simp;omega) (.slice A xs.length c));have HP5:=Hd (hf.1.set (p:=⟨W.heap.size,3,none⟩) (by have:=HPl.out;have:=HRS.out;simp;omega) (by have:=HGl.out;have:=HRS.out;simp;omega) (.slice A xs.length c));have HO5:=Hd hown;have HT5:=Hd htr;clear hf hx hr hown htr))
  |(go_at_call 92;go_must (refine(HRE.out _ W.heap.size A xs.length c HP5.out HX5.out (by have:=HPl.out;have:=HRS.out;omega) (by have:=HGl.out;have:=HRS.out;omega)).mono ?_;rintro e W6 ⟨rfl,hf⟩;have HF6:=Hd hf;clear hf)))
 exact⟨rfl,rfl,(((Fr.of_below_then HB1.out HF3.out.2).step HF4.out.2 (New.refl _ _)).step HF5.out.2 (New.refl _ _)).stepX (by have:=HRS.out;simp;omega) HF6.out⟩
theorem aNe (P g:Nat) (L:List Tok) (cond:Bool) (wi:Int) (hwi:wi<32) (w:World) (h:PS w P g L) (hPl:P<w.heap.size) (hGl:g<w.heap.size) (k:Int) (hk1:k≠1) (hk2:k≠2) (hk4:k≠4) (hBG:yH P g L cond k) (tk tn ta:Int) (ts:ByteArray) (l1:List Tok) (t2:Tok) (l2:List Tok) (xs:List Ex) (l3:List Tok) (n:Int) (s:ByteArray) (l4:List Tok) (er a:Int) (hTK:∀W,PS W P g L→Calls prog 42 #[.pointer (some ⟨P,0,none⟩),.int .i64 1,.func (.func 43) #[] #[]] W (gI W P g (fun(t:Tok) e _=>e=.returned t.v) (.ok (⟨tk,ts,tn,ta⟩,l1)))) (hS1:∀W,PS W P g l1→Calls prog 90 #[.pointer (some ⟨P,0,none⟩),.string ⟨#[40]⟩] W (gI W P g (fun(_:Tok) e _=>∃v,e=.returned v) (.ok (t2,l2)))) (hAR:∀W,PS W P g l2→Calls prog 91 #[.pointer (some ⟨P,0,none⟩),.int .i64 k,.int .i64 wi] W (AOut W P g (.ok (xs,l3)))) (hRE:∀W X A m c,PS W P g l3→eI W X k 0 ⟨#[]⟩ A m c→X≠P→X≠g→Calls prog 92 #[.pointer (some ⟨P,0,none⟩),.pointer (some ⟨X,0,none⟩)] W (sZ W P g X k A m c (.ok ((n,s),l4)))) (hS2:∀W,PS W P g l4→Calls prog 90 #[.pointer (some ⟨P,0,none⟩),.string ⟨#[41]⟩] W (gI W P g (fun(_:Tok) e _=>∃v,e=.returned v) (.error (er,a)))):Calls prog 41 #[.pointer (some ⟨P,0,none⟩),.int .i64 wi,.bool cond] w (mS w P g (.error (er,a))):=by
 have HBG:=Hd hBG
 have HPS:=Hd h
 have HPl:=Hd hPl
 have HGl:=Hd hGl
 have z1:¬(32:Int)≤wi:=by omega
 have zk1:(k==1)=false:=bN hk1
 have zk2:(k==2)=false:=bN hk2
 have zk4:(k==4)=false:=bN hk4
 have HTK:Hid (∀W,PS W P g L→Calls prog 42 #[.pointer (some ⟨P,0,none⟩),.int .i64 1,.func (.func 43) #[] #[]] W fun e w'=>e=.returned (.agg #[.int .i64 tk,.string ts,.int .i64 tn,.int .i64 ta])∧eH W P g l1 w'):=Hd hTK
 have HS1:Hid (∀W,PS W P g l1→Calls prog 90 #[.pointer (some ⟨P,0,none⟩),.string ⟨#[40]⟩] W fun e w'=>(∃v,e=.returned v)∧eH W P g l2 w'):=Hd hS1
 have HAR:Hid (∀W,PS W P g l2→Calls prog 91 #[.pointer (some ⟨P,0,none⟩),.int .i64 k,.int .i64 wi] W fun e w'=>(∃A c vs,e=.returned (.slice A xs.length c)∧dX.Own 51 w' W.heap.size A c vs∧iW (fun b=>W.heap.size≤b) w' xs vs)∧eH W P g l3 w'):=Hd hAR
 have HRE:Hid (∀W X A m c,PS W P g l3→eI W X k 0 ⟨#[]⟩ A m c→X≠P→X≠g→Calls prog 92 #[.pointer (some ⟨P,0,none⟩),.pointer (some ⟨X,0,none⟩)] W fun e w'=>(∃v,e=.returned v)∧PS w' P g l4∧eI w' X k n s A m c∧Fr [P,X] W w'):=Hd hRE
 have HS2:Hid (∀W,PS W P g l4→Calls prog 90 #[.pointer (some ⟨P,0,none⟩),.string ⟨#[41]⟩] W fun e w'=>e=iO er a∧Fr [P] W w'):=Hd hS2
 clear h hPl hGl hwi hBG hTK hS1 hAR hRE hS2
 go_enter func41,ntmps41
 go_wp2_with (first
  |(go_at_call 89;go_must (refine(HBG.out _ (HPS.out.below blw)).mono ?_;rintro e W ⟨rfl,hb⟩;have hr:=(gM w 0 0 ⟨#[]⟩ none 0 0).onBelow hb;have hs:=hb.size;have HB1:Hid (Below w.heap.size w (W.alloc (.cells #[.int .i64 k,.int .i64 0,.string ⟨#[]⟩,.slice none 0 0] 51))):=Hd (aB (aD (w:=w) blw hb) _);have HBR:=Hd (hr.onBelow (aB bR (.cells #[.int .i64 k,.int .i64 0,.string ⟨#[]⟩,.slice none 0 0] 51)));have HBX:=Hd (gM W k 0 ⟨#[]⟩ none 0 0);have HRS:Hid (w.heap.size<W.heap.size):=Hd (by simp at hs;omega);clear hb hr hs))
  |(go_at_call 42;go_must (refine(HTK.out _ (HPS.out.below HB1.out)).mono ?_;rintro e W3 ⟨rfl,hf⟩;have hx:=HBX.out.fr hf.2 (by have:=HPl.out;have:=HRS.out;omega);have hr:=HBR.out.fr hf.2 (by have:=HPl.out;omega);obtain⟨x0,x1,x2,x3,xf,xl⟩:=hx.cells;have HF3:=Hd hf;have HX3:=Hd hx;have HR3:=Hd hr;clear hf hx hr))
  |(go_at_call 90;refine(HS1.out _ HF3.out.1).mono ?_;rintro e W4 ⟨⟨v4,rfl⟩,hf⟩;have hx:=HX3.out.fr hf.2 (by have:=HPl.out;have:=HRS.out;omega);have hr:=HR3.out.fr hf.2 (by have:=HPl.out;omega);obtain⟨y0,y1,y2,y3,yf,yl⟩:=hx.cells;have HF4:=Hd hf;have HX4:=Hd hx;have HR4:=Hd hr;clear hf hx hr)
  |(go_at_call 91;go_must (refine(HAR.out _ HF4.out.1).mono ?_;rintro e W5 ⟨⟨A,c,vs,rfl,hown,htr⟩,hf⟩;have hx:=HX4.out.fr hf.2 (by have:=HPl.out;have:=HRS.out;omega);have hr:=HR4.out.fr hf.2 (by have:=HPl.out;omega);obtain⟨q0,q1,q2,q3,qf,ql⟩:=hx.cells;have HF5:=Hd hf;have HX5:=Hd (hx.setA A xs.length c);have HR5:=Hd (hr.other (p:=⟨W.heap.size,3,none⟩) (by have:=HRS.out;simp;omega) (.slice A xs.length c));have HP5:=Hd (hf.1.set (p:=⟨W.heap.size,3,none⟩) (by have:=HPl.out;have:=HRS.out;simp;omega) (by have:=HGl.out;have:=HRS.out;simp;omega) (.slice A xs.length c));have HO5:=Hd hown;have HT5:=Hd htr;clear hf hx hr hown htr))
  |(go_at_call 92;go_must (refine(HRE.out _ W.heap.size A xs.length c HP5.out HX5.out (by have:=HPl.out;have:=HRS.out;omega) (by have:=HGl.out;have:=HRS.out;omega)).mono ?_;rintro e W6 ⟨⟨v6,rfl⟩,hps,hx,hf⟩;have hr:=HR5.out.fr2 hf (by have:=HPl.out;omega) (by have:=HRS.out;omega);have HP6:=Hd hps;have HF6:=Hd hf;have HX6:=Hd hx;have HR6:=Hd hr;clear hf hx hr hps))
  |(go_at_call 90;refine(HS2.out _ HP6.out).mono ?_;rintro e W7 ⟨rfl,hf⟩;have HF7:=Hd hf;clear hf))
 exact⟨rfl,rfl,((((Fr.of_below_then HB1.out HF3.out.2).step HF4.out.2 (New.refl _ _)).step HF5.out.2 (New.refl _ _)).stepX (by have:=HRS.out;simp;omega) HF6.out).step HF7.out (New.refl _ _)⟩
theorem aNc (P g:Nat) (L:List Tok) (cond:Bool) (wi:Int) (hwi:wi<32) (w:World) (h:PS w P g L) (hPl:P<w.heap.size) (hGl:g<w.heap.size) (k:Int) (hk1:k≠1) (hk2:k≠2) (hk4:k≠4) (hBG:yH P g L cond k) (tk tn ta:Int) (ts:ByteArray) (l1:List Tok) (t2:Tok) (l2:List Tok) (xs:List Ex) (l3:List Tok) (n:Int) (s:ByteArray) (l4:List Tok) (t5:Tok) (l5:List Tok) (hTK:∀W,PS W P g L→Calls prog 42 #[.pointer (some ⟨P,0,none⟩),.int .i64 1,.func (.func 43) #[] #[]] W (gI W P g (fun(t:Tok) e _=>e=.returned t.v) (.ok (⟨tk,ts,tn,ta⟩,l1)))) (hS1:∀W,PS W P g l1→Calls prog 90 #[.pointer (some ⟨P,0,none⟩),.string ⟨#[40]⟩] W (gI W P g (fun(_:Tok) e _=>∃v,e=.returned v) (.ok (t2,l2)))) (hAR:∀W,PS W P g l2→Calls prog 91 #[.pointer (some ⟨P,0,none⟩),.int .i64 k,.int .i64 wi] W (AOut W P g (.ok (xs,l3)))) (hRE:∀W X A m c,PS W P g l3→eI W X k 0 ⟨#[]⟩ A m c→X≠P→X≠g→Calls prog 92 #[.pointer (some ⟨P,0,none⟩),.pointer (some ⟨X,0,none⟩)] W (sZ W P g X k A m c (.ok ((n,s),l4)))) (hS2:∀W,PS W P g l4→Calls prog 90 #[.pointer (some ⟨P,0,none⟩),.string ⟨#[41]⟩] W (gI W P g (fun(_:Tok) e _=>∃v,e=.returned v) (.ok (t5,l5)))):Calls prog 41 #[.pointer (some ⟨P,0,none⟩),.int .i64 wi,.bool cond] w (mS w P g (.ok (.node k n s xs,l5))):=by
 have HBG:=Hd hBG
 have HPS:=Hd h
 have HPl:=Hd hPl
 have HGl:=Hd hGl
 have z1:¬(32:Int)≤wi:=by omega
 have zk1:(k==1)=false:=bN hk1
 have zk2:(k==2)=false:=bN hk2
 have zk4:(k==4)=false:=bN hk4
 have HTK:Hid (∀W,PS W P g L→Calls prog 42 #[.pointer (some ⟨P,0,none⟩),.int .i64 1,.func (.func 43) #[] #[]] W fun e w'=>e=.returned (.agg #[.int .i64 tk,.string ts,.int .i64 tn,.int .i64 ta])∧eH W P g l1 w'):=Hd hTK
 have HS1:Hid (∀W,PS W P g l1→Calls prog 90 #[.pointer (some ⟨P,0,none⟩),.string ⟨#[40]⟩] W fun e w'=>(∃v,e=.returned v)∧eH W P g l2 w'):=Hd hS1
 have HAR:Hid (∀W,PS W P g l2→Calls prog 91 #[.pointer (some ⟨P,0,none⟩),.int .i64 k,.int .i64 wi] W fun e w'=>(∃A c vs,e=.returned (.slice A xs.length c)∧dX.Own 51 w' W.heap.size A c vs∧iW (fun b=>W.heap.size≤b) w' xs vs)∧eH W P g l3 w'):=Hd hAR
 have HRE:Hid (∀W X A m c,PS W P g l3→eI W X k 0 ⟨#[]⟩ A m c→X≠P→X≠g→Calls prog 92 #[.pointer (some ⟨P,0,none⟩),.pointer (some ⟨X,0,none⟩)] W fun e w'=>(∃v,e=.returned v)∧PS w' P g l4∧eI w' X k n s A m c∧Fr [P,X] W w'):=Hd hRE
 have HS2:Hid (∀W,PS W P g l4→Calls prog 90 #[.pointer (some ⟨P,0,none⟩),.string ⟨#[41]⟩] W fun e w'=>(∃v,e=.returned v)∧eH W P g l5 w'):=Hd hS2
 clear h hPl hGl hwi hBG hTK hS1 hAR hRE hS2
 go_enter func41,ntmps41
 go_wp2_with (first
  |(go_at_call 89;go_must (refine(HBG.out _ (HPS.out.below blw)).mono ?_;rintro e W ⟨rfl,hb⟩;have hr:=(gM w 0 0 ⟨#[]⟩ none 0 0).onBelow hb;have hs:=hb.size;have HB1:Hid (Below w.heap.size w (W.alloc (.cells #[.int .i64 k,.int .i64 0,.string ⟨#[]⟩,.slice none 0 0] 51))):=Hd (aB (aD (w:=w) blw hb) _);have HBR:=Hd (hr.onBelow (aB bR (.cells #[.int .i64 k,.int .i64 0,.string ⟨#[]⟩,.slice none 0 0] 51)));have HBX:=Hd (gM W k 0 ⟨#[]⟩ none 0 0);have HRS:Hid (w.heap.size<W.heap.size):=Hd (by simp at hs;omega);clear hb hr hs))
  |(go_at_call 42;go_must (refine(HTK.out _ (HPS.out.below HB1.out)).mono ?_;rintro e W3 ⟨rfl,hf⟩;have hx:=HBX.out.fr hf.2 (by have:=HPl.out;have:=HRS.out;omega);have hr:=HBR.out.fr hf.2 (by have:=HPl.out;omega);obtain⟨x0,x1,x2,x3,xf,xl⟩:=hx.cells;have HF3:=Hd hf;have HX3:=Hd hx;have HR3:=Hd hr;clear hf hx hr))
  |(go_at_call 90;refine(HS1.out _ HF3.out.1).mono ?_;rintro e W4 ⟨⟨v4,rfl⟩,hf⟩;have hx:=HX3.out.fr hf.2 (by have:=HPl.out;have:=HRS.out;omega);have hr:=HR3.out.fr hf.2 (by have:=HPl.out;omega);obtain⟨y0,y1,y2,y3,yf,yl⟩:=hx.cells;have HF4:=Hd hf;have HX4:=Hd hx;have HR4:=Hd hr;clear hf hx hr)
  |(go_at_call 91;go_must (refine(HAR.out _ HF4.out.1).mono ?_;rintro e W5 ⟨⟨A,c,vs,rfl,hown,htr⟩,hf⟩;have hx:=HX4.out.fr hf.2 (by have:=HPl.out;have:=HRS.out;omega);have hr:=HR4.out.fr hf.2 (by have:=HPl.out;omega);obtain⟨q0,q1,q2,q3,qf,ql⟩:=hx.cells;have HF5:=Hd hf;have HX5:=Hd (hx.setA A xs.length c);have HR5:=Hd (hr.other (p:=⟨W.heap.size,3,none⟩) (by have:=HRS.out;simp;omega) (.slice A xs.length c));have HP5:=Hd (hf.1.set (p:=⟨W.heap.size,3,none⟩) (by have:=HPl.out;have:=HRS.out;simp;omega) (by have:=HGl.out;have:=HRS.out;simp;omega) (.slice A xs.length c));have HO5:=Hd hown;have HT5:=Hd htr;clear hf hx hr hown htr))
  |(go_at_call 92;go_must (refine(HRE.out _ W.heap.size A xs.length c HP5.out HX5.out (by have:=HPl.out;have:=HRS.out;omega) (by have:=HGl.out;have:=HRS.out;omega)).mono ?_;rintro e W6 ⟨⟨v6,rfl⟩,hps,hx,hf⟩;have hr:=HR5.out.fr2 hf (by have:=HPl.out;omega) (by have:=HRS.out;omega);have HP6:=Hd hps;have HF6:=Hd hf;have HX6:=Hd hx;have HR6:=Hd hr;clear hf hx hr hps))
  |(go_at_call 90;refine(HS2.out _ HP6.out).mono ?_;rintro e W7 ⟨⟨v7,rfl⟩,hf⟩;have hx:=HX6.out.fr hf.2 (by have:=HPl.out;have:=HRS.out;omega);have hr:=HR6.out.fr hf.2 (by have:=HPl.out;omega);obtain⟨u0,u1,u2,u3,uf,ul⟩:=hx.cells;obtain⟨r0,r1,r2,r3,rf,rl⟩:=hr.cells;have hne:¬W.heap.size=w.heap.size:=(by have:=HRS.out;omega);have HF7:=Hd hf;have HX7:=Hd hx;have HR7:=Hd hr;clear hf hx hr))
 have F7:Fr [P] w W7:=((((Fr.of_below_then HB1.out HF3.out.2).step HF4.out.2 (New.refl _ _)).step HF5.out.2 (New.refl _ _)).stepX (by have:=HRS.out;simp;omega) HF6.out).step HF7.out.2 (New.refl _ _)
 have L0:eH w P g l5 W7:=⟨HF7.out.1,F7⟩
 have s1:=HB1.out.size
 have s3:=HF3.out.2.size
 have s4:=HF4.out.2.size
 have s5:=HF5.out.2.size
 have s6:=HF6.out.size
 have hRS:=HRS.out
 have hPl:=HPl.out
 simp[World.setCell] at s1 s3 s6
 have hkeep:∀b,W4.heap.size≤b→b<W5.heap.size→W7.heap[b]?=W5.heap[b]?:=fun b hb hl=>by
  rw[HF7.out.2.block b (by omega) (by simp;omega),HF6.out.block b (by simpa[World.setCell] using hl) (by simp;omega),aG _ _ _ _ (by simp;omega)]
 have hN:=aDy k n s HO5.out HT5.out (W':=W7) hkeep
 refine bodyPost_ret (v:=.agg #[.int .i64 k,.int .i64 n,.string s,.slice A xs.length c]) (by simp[results,results41,go_sem, *]) rfl ⟨⟨⟨k,n,s,A,xs.length,c⟩,rfl,?_⟩,?_⟩
 ·refine bB.mono (S:=fun b=>W4.heap.size≤b) ?_ (fun b hb _=>by omega)
  repeat(refine bB.set ?_ (by simp;omega) _)
  exact hN
 ·repeat(refine eH.set ?_ (by exact nR) HPl.out HGl.out _)
  exact L0
end Go.Proofs.YtlibhkkckgkkkaaGreatDoor.Tf
namespace Go.Proofs.YtlibhkkckgkkkaaGreatDoor.Tf
open Go.RowKit Go.Proofs.YtlibhkkckgkkkaaGreatDoor.Mem Go.Proofs.YtlibhkkckgkkkaaGreatDoor.Boo Go.Proofs.YtlibhkkckgkkkaaGreatDoor.MoneyA
theorem vC (u:Nat) (h:¬u<10):Lib.decDigits u=Lib.decDigits (u / 10)++[UInt8.ofNat (48+u % 10)]:=by rw[Lib.decDigits,dif_neg h]
theorem oP (k:Nat) (h:k<10):(UInt8.ofNat (48+k)).toNat=48+k:=by rw[UInt8.toNat_ofNat'];omega
theorem kJ (k:Nat) (h:k<10):bY (UInt8.ofNat (48+k))=true:=by
 unfold bY
 rw[oP k h]
 exact decide_eq_true (by omega)
theorem gR (u:Nat):∀c∈Lib.decDigits u,bY c=true:=by
 induction u using Nat.strongRecOn with
 |ind u ih=>
  by_cases h:u<10
  ·rw[Lib.decDigits_one h]
   intro c hc
   rw[List.mem_singleton.1 hc]
   exact kJ u h
  ·rw[vC u h]
   intro c hc
   rcases List.mem_append.1 hc with hc|hc
   ·exact ih (u / 10) (by omega) c hc
   ·rw[List.mem_singleton.1 hc]
    exact kJ _ (by omega)
theorem sM (u:Nat):Lib.decDigits u≠[]:=by
 by_cases h:u<10
 ·rw[Lib.decDigits_one h];simp
 ·rw[vC u h];simp
theorem aJh (u:Nat) (hu:u<9223372036854775808) (m:List UInt8):Lib.parseUint10 0 (Lib.decDigits u++m)=Lib.parseUint10 u m:=by
 induction u using Nat.strongRecOn generalizing m with
 |ind u ih=>
  have key:∀v k,v * 10+k=u→k<10→Lib.parseUint10 v (UInt8.ofNat (48+k)::m)=Lib.parseUint10 u m:=by
   intro v k hv hk
   rw[Lib.parseUint10,oP k hk,if_pos (by omega),if_neg (by omega),if_neg (by omega)]
   congr 1
   omega
  by_cases h:u<10
  ·rw[Lib.decDigits_one h]
   exact key 0 u (by omega) h
  ·rw[vC u h,List.append_assoc,ih (u / 10) (by omega) (by omega)]
   exact key (u / 10) (u % 10) (by omega) (by omega)
theorem tU {c:UInt8} (h:bY c=true):48≤c.toNat∧c.toNat≤57:=by
 have:=of_decide_eq_true h
 omega
theorem aNs (u:Nat) (hu:u<9223372036854775808):Lib.atoiAll (Lib.decDigits u)=.ok (u:Int):=by
 have hp:=aJh u hu []
 rw[List.append_nil] at hp
 cases hd:Lib.decDigits u with
 |nil=>exact absurd hd (sM u)
 |cons c r=>
  have hc:=tU (gR u c (by rw[hd];simp))
  rw[hd] at hp
  unfold Lib.atoiAll
  dsimp only
  rw[if_neg (by omega)]
  unfold Lib.parseMag
  rw[if_neg (by simp),hp,Lib.parseUint10]
  simp only
  rw[if_neg (by omega),if_neg (by omega),if_neg (by omega)]
theorem gN (u:Nat):bP (u:Int)=bl (Lib.decDigits u):=by
 unfold bP Lib.itoa
 rw[if_neg (by omega),Int.toNat_natCast]
theorem aQr (u:Nat):lH (bl (Lib.decDigits u))=true:=by
 rw[oU,Bool.and_eq_true]
 exact⟨by simpa using sM u,List.all_eq_true.2 (gR u)⟩
theorem sN (u:Nat) (most:Int) (h:(u:Int)≤most) (h':u≤1000000000000):bU (bl (Lib.decDigits u)) most=u:=by
 have ha:lL (bl (Lib.decDigits u))=some (u:Int):=by
  unfold lL
  rw[eE,aNs u (by omega)]
 unfold bU
 rw[ha]
 dsimp only
 rw[if_pos]
 refine⟨aQr u,by omega,?_⟩
 have:(ByteArray.mk (Lib.itoa (u:Int)).toArray)=bl (Lib.decDigits u):=gN u
 rw[this]
 exact oN _
theorem xJ {c:UInt8} {r:List UInt8} (h:bY c=true):jF (bl (c::r))=false:=by
 have hc:=tU h
 unfold jF
 rw[List.any_eq_false]
 intro w hw he
 have e:bl (c::r)=w:=kB he
 have e2:w.data.toList.head?=some c:=by rw[←e,eE];rfl
 simp only[W11,List.mem_cons,List.not_mem_nil,or_false] at hw
 rcases hw with rfl|rfl|rfl|rfl|rfl|rfl|rfl|rfl|rfl|rfl|rfl <;> (simp at e2;subst e2;revert hc;decide)
theorem xL {c:UInt8} {r:List UInt8} (h:bY c=true):aZ (bl (c::r))=false:=by
 have hc:=tU h
 unfold aZ
 rw[eE]
 have:fL c=false:=decide_eq_false (by omega)
 simp[this]
theorem mK (c:UInt8) (h:bY c=true):parB c=true:=by
 have H:∀n:Fin 256,bY (UInt8.ofNat n.val)=true→parB (UInt8.ofNat n.val)=true:=by decide +kernel
 have:=H ⟨c.toNat,c.toNat_lt⟩
 simp at this
 exact this h
theorem aG3 (u:Nat) (h:u≤100000):OkW ⟨2,(bP (u:Int)).data.toList,u,false⟩:=by
 rw[gN,eE]
 refine⟨(by show(2:Int)≠5;decide),sM u,fun c hc=>mK c (gR u c hc),?_⟩
 cases hd:Lib.decDigits u with
 |nil=>exact absurd hd (sM u)
 |cons c r=>
  have hc:=gR u c (by rw[hd];simp)
  unfold kE
  rw[xJ hc,xL hc,←hd,sN u 100000 (by omega) (by omega)]
  simp
def jQ (r:Nat):List UInt8:=[46,UInt8.ofNat (48+r / 10),UInt8.ofNat (48+r % 10)]
theorem aQs (r:Nat) (h:r<100):Lib.decDigits (100+r)=[49,UInt8.ofNat (48+r / 10),UInt8.ofNat (48+r % 10)]:=by
 rw[vC _ (by omega),Lib.decDigits_two (by omega) (by omega)]
 have h1:(100+r) / 10 / 10=1:=by omega
 have h2:(100+r) / 10 % 10=r / 10:=by omega
 have h3:(100+r) % 10=r % 10:=by omega
 rw[h1,h2,h3]
 rfl
theorem iI (u:Nat) (h:u≤1000000000000):dR (u:Int)=bl (Lib.decDigits (u / 100)++jQ (u % 100)):=by
 unfold dR
 rw[if_pos (show dU (u:Int)=true from decide_eq_true (by omega)),if_neg (by omega)]
 have e1:(u:Int) / 100=((u / 100:Nat):Int):=by omega
 have e2:(100+(u:Int) % 100)=((100+u % 100:Nat):Int):=by omega
 rw[e1,e2,gN,gN,aQs _ (by omega)]
 apply ByteArray.ext
 apply Array.ext'
 rw[eE (Lib.decDigits (u / 100)++jQ (u % 100))]
 simp[ByteArray.data_append,ByteArray.data_extract,jQ,ByteArray.size]
theorem aD9 (l m:List UInt8) (h:∀c∈l,bY c=true):Lib.index (l++46::m) [46]=l.length:=by
 induction l with
 |nil=>simp[Lib.index]
 |cons a l ih=>
  have ha:=tU (h a (by simp))
  have hne:(46==a)=false:=by
   rw[beq_eq_false_iff_ne]
   rintro rfl
   revert ha;decide
  rw[List.cons_append,Lib.index]
  simp only[List.isPrefixOf,hne,Bool.false_and]
  rw[ih (fun c hc=>h c (by simp[hc]))]
  have:((l.length:Int)==-1)=false:=by rw[beq_eq_false_iff_ne];omega
  simp[this]
theorem aNu (l m:List UInt8) (h:∀c∈l,bY c=true):Lib.cut (l++46::m) [46]=(l,m,true):=by
 unfold Lib.cut
 rw[aD9 l m h,if_pos (by omega),Int.toNat_natCast]
 simp
theorem pW (u:Nat) (h:u≤1000000000000):eF (dR (u:Int))=((u:Int),0):=by
 have ht:=iI u h
 have hd:=gR (u / 100)
 have hr:u % 100<100:=by omega
 have d0:=kJ (u % 100 / 10) (by omega)
 have d1:=kJ (u % 100 % 10) (by omega)
 have n0:=oP (u % 100 / 10) (by omega)
 have n1:=oP (u % 100 % 10) (by omega)
 have htr:Lib.trimPrefix (Lib.decDigits (u / 100)++jQ (u % 100)) [45]=Lib.decDigits (u / 100)++jQ (u % 100)∧(Lib.decDigits (u / 100)++jQ (u % 100)).head?≠some 45:=by
  cases hq:Lib.decDigits (u / 100) with
  |nil=>exact absurd hq (sM _)
  |cons c r=>
   have hc:=tU (hd c (by rw[hq];simp))
   have hne:(45==c)=false:=by
    rw[beq_eq_false_iff_ne]
    rintro rfl
    revert hc;decide
   refine⟨?_,?_⟩
   ·unfold Lib.trimPrefix
    rw[if_neg]
    simp[Lib.hasPrefix,List.isPrefixOf,hne]
   ·simp
    rintro rfl
    revert hc;decide
 have hA:eS (Lib.decDigits (u / 100)++jQ (u % 100))=u:=by
  unfold eS
  rw[htr.1]
  unfold jQ
  rw[aNu _ _ hd]
  dsimp only
  rw[sN (u / 100) 10000000000 (by omega) (by omega),if_neg (fun h=>by rw[d0,d1] at h;rcases h with h|h|h;omega;cases h;cases h),n0,n1]
  omega
 unfold eF
 rw[ht,eE,hA,if_neg (by omega),if_neg htr.2]
 dsimp only
 rw[ht,oN]
 rfl
theorem aG2 (u:Nat) (h:u≤1000000000000):OkW ⟨3,(dR (u:Int)).data.toList,u,false⟩:=by
 have hp:=pW u h
 have ht:=iI u h
 have hd:=gR (u / 100)
 rw[ht] at hp
 rw[ht,eE]
 refine⟨(by show(3:Int)≠5;decide),by simp[sM],fun c hc=>?_,?_⟩
 ·rcases List.mem_append.1 hc with hc|hc
  ·exact mK c (hd c hc)
  ·simp only[jQ,List.mem_cons,List.not_mem_nil,or_false] at hc
   rcases hc with rfl|rfl|rfl
   ·decide
   ·exact mK _ (kJ _ (by omega))
   ·exact mK _ (kJ _ (by omega))
 ·have hc:bU (bl (Lib.decDigits (u / 100)++jQ (u % 100))) 100000=-1:=by
   have ha:lH (bl (Lib.decDigits (u / 100)++jQ (u % 100)))=false:=by
    rw[oU,Bool.and_eq_false_iff]
    right
    rw[List.all_eq_false]
    exact⟨46,by simp[jQ],by decide⟩
   unfold bU
   split
   ·rfl
   ·rw[if_neg (by rw[ha];simp)]
  cases hq:Lib.decDigits (u / 100) with
  |nil=>exact absurd hq (sM _)
  |cons c r=>
   have hcd:=hd c (by rw[hq];simp)
   rw[hq] at hp hc
   unfold kE
   rw[List.cons_append] at hp hc ⊢
   rw[xJ hcd,xL hcd,hc,hp]
   simp
end Go.Proofs.YtlibhkkckgkkkaaGreatDoor.Tf
namespace Go.Proofs.YtlibhkkckgkkkaaGreatDoor.Tf
open Go.RowKit Go.Proofs.YtlibhkkckgkkkaaGreatDoor.Mem Go.Proofs.YtlibhkkckgkkkaaGreatDoor.Boo Go.Proofs.Tryz
theorem ePL {W:World} {P g:Nat} {l:List Tok} (h:PS W P g l):P<W.heap.size:=by
 obtain⟨o,q,hp,_⟩:=h;exact(gLt hp)
theorem aIy (P g:Nat):∀(f:Nat),f≤32→∀(cond:Bool) (l:List Tok),gT l→∀(w:World),PS w P g l→
 Calls prog 41 #[.pointer (some ⟨P,0,none⟩),.int .i64 (32-(f:Int)),.bool cond] w (mS w P g (eX f cond l)):=by
 intro f
 induction f with
 |zero=>
  intro _ cond l hf w h
  obtain⟨t,r,rfl⟩:∃t r,l=t::r:=by
   cases l with
   |nil=>exact absurd rfl hf.1.ne
   |cons t r=>exact⟨t,r,rfl⟩
  exact aEu P g t r cond w h
 |succ f ih=>
  intro hf32 cond l hf w h
  obtain⟨t,r,rfl⟩:∃t r,l=t::r:=by
   cases l with
   |nil=>exact absurd rfl hf.1.ne
   |cons t r=>exact⟨t,r,rfl⟩
  obtain⟨wi,hwi⟩:∃wi:Int,wi=32-((f+1:Nat):Int):=⟨_,rfl⟩
  rw[←hwi]
  have hlt:wi<32:=by omega
  rw[eX]
  cases hb:fJ cond t with
  |none=>exact aIx P g t r cond wi hlt w h hb
  |some k=>
   dsimp only
   by_cases h4:k=4
   ·subst h4
    rw[if_pos rfl]
    exact aP6 P g t r cond wi hlt w h hb
   rw[if_neg h4]
   by_cases h12:k=1∨k=2
   ·have:=aNj P g t r cond wi hlt w h k h12 hb
    simp only[if_pos h12]
    exact this
   have hk1:k≠1:=fun e=>h12 (.inl e)
   have hk2:k≠2:=fun e=>h12 (.inr e)
   simp only[if_neg h12]
   have hPl:=ePL h
   have hGl:=h.gl
   have hBG:yH P g (t::r) cond k:=begP hb
   have hTK:∀W,PS W P g (t::r)→Calls prog 42 #[.pointer (some ⟨P,0,none⟩),.int .i64 1,.func (.func 43) #[] #[]] W (gI W P g (fun(t:Tok) e _=>e=.returned t.v) (bK 1 (fun _=>true) (t::r))):=fun W h1=>gV P g _ (by simp) 1 _ 43 #[] W aB6 h1 (fun t _ W2 _=>qT t W2)
   rcases h1:bK 1 (fun _=>true) (t::r) with⟨er,a⟩|⟨⟨tk,ts,tn,ta⟩,l1⟩
   ·rw[h1] at hTK
    exact aNi P g _ cond wi hlt w h hPl hGl k hk1 hk2 h4 hBG er a hTK
   rw[h1] at hTK
   have f1:=dP hf h1
   dsimp only
   unfold rO
   have hS1:∀W,PS W P g l1→Calls prog 90 #[.pointer (some ⟨P,0,none⟩),.string ⟨#[40]⟩] W (gI W P g (fun(_:Tok) e _=>∃v,e=.returned v) (bM opnB l1)):=fun W h2=>lT P g l1 f1.1.ne opnB W h2
   rcases h2:bM opnB l1 with⟨er,a⟩|⟨t2,l2⟩
   ·rw[h2] at hS1
    exact aNh P g _ cond wi hlt w h hPl hGl k hk1 hk2 h4 hBG tk tn ta ts l1 er a hTK hS1
   rw[h2] at hS1
   have f2:=dP f1 h2
   dsimp only
   obtain⟨n,hn,hn3,hnn⟩:=kM k
   have hAR:∀W,PS W P g l2→Calls prog 91 #[.pointer (some ⟨P,0,none⟩),.int .i64 k,.int .i64 wi] W (AOut W P g (bW (eX f) k (cH k).toNat 0 l2)):=fun W h3=>by
    rw[hnn]
    exact aKk P g l2 f2 k wi n hn hn3 (by omega) (eX f) W h3 (fun cond l hl W hW=>by
     have:=ih (by omega) cond l hl W hW
     rw[show(32-(f:Int))=wi+1 by omega] at this
     exact this) (tT f)
   rcases h3:bW (eX f) k (cH k).toNat 0 l2 with⟨er,a⟩|⟨xs,l3⟩
   ·rw[h3] at hAR
    exact aNg P g _ cond wi hlt w h hPl hGl k hk1 hk2 h4 hBG tk tn ta ts l1 t2 l2 er a hTK hS1 hAR
   rw[h3] at hAR
   have f3:=uE (tT f) k _ 0 _ _ _ f2 h3
   dsimp only
   have hRE:∀W X A m c,PS W P g l3→eI W X k 0 ⟨#[]⟩ A m c→X≠P→X≠g→Calls prog 92 #[.pointer (some ⟨P,0,none⟩),.pointer (some ⟨X,0,none⟩)] W (sZ W P g X k A m c (dH k l3)):=fun W X A m c h1 h2 h3 h4=>aGo P g X l3 f3.1 f3.2 k A m c W h1 h2 h3 h4
   rcases h4':dH k l3 with⟨er,a⟩|⟨⟨n',s⟩,l4⟩
   ·rw[h4'] at hRE
    exact aNf P g _ cond wi hlt w h hPl hGl k hk1 hk2 h4 hBG tk tn ta ts l1 t2 l2 xs l3 er a hTK hS1 hAR hRE
   rw[h4'] at hRE
   have f4:=tL f3 h4'
   dsimp only
   have hS2:∀W,PS W P g l4→Calls prog 90 #[.pointer (some ⟨P,0,none⟩),.string ⟨#[41]⟩] W (gI W P g (fun(_:Tok) e _=>∃v,e=.returned v) (bM nI l4)):=fun W h2=>lT P g l4 f4.1.ne nI W h2
   rcases h5:bM nI l4 with⟨er,a⟩|⟨t5,l5⟩
   ·rw[h5] at hS2
    exact aNe P g _ cond wi hlt w h hPl hGl k hk1 hk2 h4 hBG tk tn ta ts l1 t2 l2 xs l3 n' s l4 er a hTK hS1 hAR hRE hS2
   rw[h5] at hS2
   exact aNc P g _ cond wi hlt w h hPl hGl k hk1 hk2 h4 hBG tk tn ta ts l1 t2 l2 xs l3 n' s l4 t5 l5 hTK hS1 hAR hRE hS2
theorem aDv (p q r:Addr) (w:World):
 CallsD prog 40 #[.pointer (some p),.pointer (some q),.pointer (some r)] .returning w fun e u' w'=>e=.returned (.tuple #[])∧u'=.returning∧Below w.heap.size w w':=by
 have ta:∀W,(Instr.typeAssert .nilIface 20 87 true).run prog W=.ok (.tuple #[.agg #[.int .i64 0,.int .i64 0],.bool false]) W:=fun W=>by kernel_rfl
 refine callsD_of_wpS func40 rfl fun c₀ cs hu=>?_
 apply wpS_seq
 apply wpS_region
 simp[wpOpsS,go_sem,recoverD,hu,ntmps40,Exit.thenS,ta]
 apply wpS_seq
 apply wpS_region
 simp[wpOpsS,go_sem,Exit.thenS]
 refine wpS_cond (t:=false) (by simp[Act.eval,Array.replicate]) ?_
 simp only[Bool.false_eq_true,if_false]
 refine wpS_of_wp (wp_skip ?_)
 cases c₀
 simp_all[bodyPostS,results,results40]
 exact aB bR _
theorem sz1 (W:World) (o:Obj):(W.alloc o).heap.size=W.heap.size+1:=by simp
def nO (W:World) (b:Nat) (t:TypeId) (n:Int):Prop:=W.heap[b]?=some (.cells #[.int .i64 n] t (0,0))
theorem box1 (W:World) (t:TypeId) (n:Int):nO (W.alloc (.cells #[.int .i64 n] t)) W.heap.size t n:=aN W _
theorem nO.onBelow {W W':World} {b:Nat} {t:TypeId} {n:Int} (h:nO W b t n) (hb:Below W.heap.size W W'):nO W' b t n:=(hb.block b (gLt h)).trans h
theorem nO.other {W:World} {b:Nat} {t:TypeId} {n:Int} (h:nO W b t n) {p:Addr} (hp:b≠p.block) (u:Value):nO (W.setCell p u) b t n:=(aG W p u b hp).trans h
theorem nO.set {W:World} {b:Nat} {t:TypeId} {n:Int} (h:nO W b t n) (m:Int):nO (W.setCell ⟨b,0,none⟩ (.int .i64 m)) b t m:=aE W b 0 _ t _ h
theorem nO.fr {W W':World} {b P:Nat} {t:TypeId} {n:Int} (h:nO W b t n) (hf:Fr [P] W W') (hne:b≠P):nO W' b t n:=(hf.block b (gLt h) (by simpa using hne)).trans h
theorem nO.cells {W:World} {b:Nat} {t:TypeId} {n:Int} (h:nO W b t n):W.cell? ⟨b,0,none⟩=some (.int .i64 n)∧(∀o,W.frozen? ⟨b,o,none⟩=false)∧b<W.heap.size:=
 ⟨aA h 0,fun o=>by simp[World.frozen?,show W.heap[b]?=_ from h],(gLt h)⟩
theorem aHa {w:World} {base c:Nat} {A:Option Addr} {l:List Tok} (h:dK.Own 92 w base A c l) (hl:0<l.length):∃g,A=some ⟨g,0,none⟩∧base≤g∧g<w.heap.size:=by
 rcases h.form with⟨_,_,rfl⟩|⟨g,h1,h2,h3,_⟩
 ·exact absurd hl (Nat.lt_irrefl 0)
 ·exact⟨g,h1,h2,h3⟩
theorem aRa {W:World} {g c:Nat} {l:List Tok} {p q:Addr} {u v:Value} (h:dK.At W (some ⟨g,0,none⟩) c l) (hg:g<W.heap.size) (hp:g≠p.block) (hq:g≠q.block):
 PS (((W.setCell p u).setCell q v).alloc (.cells #[.slice (some ⟨g,0,none⟩) l.length c] 89)) W.heap.size g l:=by
 refine⟨0,c,?_,?_⟩
 ·have:=aN ((W.setCell p u).setCell q v) (.cells #[.slice (some ⟨g,0,none⟩) l.length c] 89)
  simpa[World.setCell] using this
 ·refine jY h ?_
  rw[(aB bR _).block g (by simpa[World.setCell] using hg),aG _ _ _ _ hq,aG _ _ _ _ hp]
theorem aG8 (s:ByteArray) (l:List Tok) (x:Ex) (t:Tok) (hl:lexL s=.ok l) (hf:gT l) (hx:eX 32 false l=.ok (x,[t])) (ht:t.k=5) (w:World) (G:Gl w):
 Calls prog 13 #[.string s] w fun e w'=>(∃v:EV,e=.returned (.tuple #[.agg #[.int .i64 v.k,.int .i64 v.n,.string v.s,.slice v.A v.m v.c],.int .i64 0,.int .i64 0])∧bB (fun b=>w.heap.size≤b) w' x v)∧Below w.heap.size w w':=by
 have hmf:∀(fn:Fn) (first cap:Array Value) (w:World),(Instr.makeFunc fn first cap).run prog w=.ok (.func fn first cap) w:=fun _ _ _ _=>rfl
 have HLX:Hid (∀W,Gl W→Calls prog 39 #[.string s] W fun e w'=>∃A c,e=.returned (.tuple #[.slice A l.length c,.int .i64 0,.int .i64 0])∧dK.Own 92 w' W.heap.size A c l∧Below W.heap.size W w'):=Hd (fun W hW=>by
  have:=aMl s W hW
  rw[hl] at this
  exact this)
 have HEX:Hid (∀P g W,PS W P g l→Calls prog 41 #[.pointer (some ⟨P,0,none⟩),.int .i64 0,.bool false] W fun e w'=>(∃v:EV,e=.returned (.agg #[.int .i64 v.k,.int .i64 v.n,.string v.s,.slice v.A v.m v.c])∧bB (fun b=>W.heap.size≤b) w' x v)∧eH W P g [t] w'):=Hd (fun P g W hW=>by
  have:=aIy P g 32 nR false l hf W hW
  rw[hx] at this
  exact this)
 have HTK:Hid (∀P g W,PS W P g [t]→Calls prog 42 #[.pointer (some ⟨P,0,none⟩),.int .i64 5,.func (.func 43) #[] #[]] W fun e w'=>e=.returned (.agg #[.int .i64 t.k,.string t.s,.int .i64 t.n,.int .i64 t.a])∧eH W P g [t] w'):=Hd (fun P g W hW=>by
  have:=gV P g [t] (by simp) 5 (fun _=>true) 43 #[] W aB6 hW (fun t _ W2 _=>qT t W2)
  have e5:bK 5 (fun _=>true) [t]=.ok (t,[t]):=by simp[bK,oJ,ht]
  rw[e5] at this
  exact this)
 have HG:=Hd G
 have HLN:Hid (0<l.length):=Hd (List.length_pos_iff.2 hf.1.ne)
 clear hl hf hx G
 go_enter_defers func13,ntmps13
 go_wp2_with (first
  |(go_at_call 39;go_must (refine(HLX.out _ (HG.out.below blw)).mono ?_;rintro e W1 ⟨A,c,rfl,hown,hb⟩;obtain⟨g,rfl,hg1,hg2⟩:=aHa hown HLN.out;have rb:=((gM w 0 0 ⟨#[]⟩ none 0 0).onBelow (aB (aB bR _) _)).onBelow hb;have rc:=((box1 (w.alloc (.cells #[.int .i64 0,.int .i64 0,.string ⟨#[]⟩,.slice none 0 0] 51)) 36 0).onBelow (aB bR _)).onBelow hb;have rd:=(box1 ((w.alloc (.cells #[.int .i64 0,.int .i64 0,.string ⟨#[]⟩,.slice none 0 0] 51)).alloc (.cells #[.int .i64 0] 36)) 3 0).onBelow hb;simp only[sz1] at rc rd hg1;have hps:=(aRa (p:=⟨w.heap.size+1,0,none⟩) (q:=⟨w.heap.size+1+1,0,none⟩) (u:=.int .i64 0) (v:=.int .i64 0) hown.at_ (by omega) (by show g≠w.heap.size+1;omega) (by show g≠w.heap.size+1+1;omega));have rb2:=((rb.other (p:=⟨w.heap.size+1,0,none⟩) (by simp) (.int .i64 0)).other (p:=⟨w.heap.size+1+1,0,none⟩) (by simp;omega) (.int .i64 0)).onBelow (aB bR (.cells #[.slice (some ⟨g,0,none⟩) l.length c] 89));have rc2:=(((rc.set 0).other (p:=⟨w.heap.size+1+1,0,none⟩) (by simp) (.int .i64 0))).onBelow (aB bR (.cells #[.slice (some ⟨g,0,none⟩) l.length c] 89));have rd2:=((rd.other (p:=⟨w.heap.size+1,0,none⟩) (by simp) (.int .i64 0)).set 0).onBelow (aB bR (.cells #[.slice (some ⟨g,0,none⟩) l.length c] 89));have HPS2:=Hd hps;have HRB:=Hd rb2;have HRC:=Hd rc2;have HRD:=Hd rd2;have HW1:Hid (w.heap.size+3≤W1.heap.size):=Hd (by have:=hb.size;simp at this;omega);have HB1:=bst w hb;(obtain⟨⟨kc1_0_0,kc1_0_1,kc1_0_2,kc1_0_3⟩,kl1_0,kf1_0⟩:=kb4 hb (w.heap.size) (.int .i64 0) (.int .i64 0) (.string ⟨#[]⟩) (.slice none 0 0);obtain⟨kc1_1_0,kl1_1,kf1_1⟩:=kz1 hb (w.heap.size+1) (.int .i64 0);obtain⟨kc1_2_0,kl1_2,kf1_2⟩:=kz1 hb (w.heap.size+1+1) (.int .i64 0));clear hown hb hps rb rc rd rb2 rc2 rd2))
  |(go_at_call 41;go_must (refine(HEX.out _ g _ HPS2.out).mono ?_;rintro e W3 ⟨⟨⟨ek,en,es,eA,em,ec⟩,rfl,ht⟩,hf⟩;have rb:=HRB.out.fr hf.2 (by have:=HW1.out;omega);have rc:=HRC.out.fr hf.2 (by have:=HW1.out;simp;omega);have rd:=HRD.out.fr hf.2 (by have:=HW1.out;simp;omega);have HL3:=Hd hf;have HT3:=Hd ht;have HRB3:=Hd rb;have HRC3:=Hd rc;have HRD3:=Hd rd;have HW3:Hid (W1.heap.size<W3.heap.size):=Hd (by have:=hf.2.size;simp[World.setCell] at this;omega);clear hf ht rb rc rd))
  |(go_at_call 42;go_must (refine(HTK.out _ g _ (HL3.out.1.below (aB bR _))).mono ?_;rintro e W4 ⟨rfl,hf⟩;have rx:=(gM W3 ek en es eA em ec).fr hf.2 (by have:=HW3.out;omega);have rb:=(HRB3.out.onBelow (aB bR (.cells #[.int .i64 ek,.int .i64 en,.string es,.slice eA em ec] 51))).fr hf.2 (by have:=HW1.out;omega);have rc:=(HRC3.out.onBelow (aB bR (.cells #[.int .i64 ek,.int .i64 en,.string es,.slice eA em ec] 51))).fr hf.2 (by have:=HW1.out;simp;omega);have rd:=(HRD3.out.onBelow (aB bR (.cells #[.int .i64 ek,.int .i64 en,.string es,.slice eA em ec] 51))).fr hf.2 (by have:=HW1.out;simp;omega);obtain⟨x0,x1,x2,x3,xf,xl⟩:=rx.cells;obtain⟨r0,r1,r2,r3,rf,rl⟩:=rb.cells;obtain⟨s0,sf,sl⟩:=rc.cells;obtain⟨q0,qf,ql⟩:=rd.cells;have ne1:¬W3.heap.size=w.heap.size:=(by have:=HW1.out;have:=HW3.out;omega);have ne2:¬W3.heap.size=w.heap.size+1:=(by have:=HW1.out;have:=HW3.out;omega);have ne3:¬W3.heap.size=w.heap.size+1+1:=(by have:=HW1.out;have:=HW3.out;omega);have HL4:=Hd hf;clear hf rx rb rc rd)))
 refine leaves_cons (f:=40) (args:=#[.pointer (some ⟨w.heap.size,0,none⟩),.pointer (some ⟨w.heap.size+1,0,none⟩),.pointer (some ⟨w.heap.size+1+1,0,none⟩)]) (by simp) (by simp[go_sem]) ?_
 refine(aDv _ _ _ _).mono ?_
 rintro e u' w2 ⟨rfl,rfl,hb⟩
 have d0:w2.cell? ⟨w.heap.size,0,none⟩=some (.int .i64 ek):=aC hb (by go_simp)
 have d1:w2.cell? ⟨w.heap.size,1,none⟩=some (.int .i64 en):=aC hb (by go_simp)
 have d2:w2.cell? ⟨w.heap.size,2,none⟩=some (.string es):=aC hb (by go_simp)
 have d3:w2.cell? ⟨w.heap.size,3,none⟩=some (.slice eA em ec):=aC hb (by go_simp)
 have d4:w2.cell? ⟨w.heap.size+1,0,none⟩=some (.int .i64 0):=aC hb (by go_simp)
 have d5:w2.cell? ⟨w.heap.size+1+1,0,none⟩=some (.int .i64 0):=aC hb (by go_simp)
 have HBB:=Hd hb
 clear hb
 simp[Leaves,settle,results,results13,go_sem,d0,d1,d2,d3,d4,d5]
 have h1:=HW1.out
 have h3:=HW3.out
 refine⟨⟨⟨ek,en,es,eA,em,ec⟩,⟨rfl,rfl,rfl,rfl,rfl,rfl⟩,?_⟩,?_⟩
 ·have t1:=(HT3.out.onBelow (aB bR (.cells #[.int .i64 ek,.int .i64 en,.string es,.slice eA em ec] 51))).fr HL4.out.2 (fun b hb=>by simp at hb;subst hb;simp[World.setCell])
  refine(bB.onBelow ?_ HBB.out).mono (S:=fun b=>W1.heap.size+1≤b) (fun b hb _=>by omega)
  repeat(refine bB.set ?_ (by simp;omega) _)
  exact t1.mono (fun b hb _=>by simpa[World.setCell] using hb)
 ·have b2:Below w.heap.size w (((W1.setCell ⟨w.heap.size+1,0,none⟩ (.int .i64 0)).setCell ⟨w.heap.size+1+1,0,none⟩ (.int .i64 0)).alloc (.cells #[.slice (some ⟨g,0,none⟩) l.length c] 89)):=aB (aF (aF HB1.out (Nat.le_succ _) _) (by show w.heap.size≤w.heap.size+1+1;omega) _) _
  have b3:=b2.trans (HL3.out.2.below b2.size (fun x hx=>by simp at hx;omega))
  have b3':=aB b3 (.cells #[.int .i64 ek,.int .i64 en,.string es,.slice eA em ec] 51)
  have b4:=b3'.trans (HL4.out.2.below b3'.size (fun x hx=>by simp at hx;omega))
  refine aD ?_ HBB.out
  repeat(refine aF ?_ (by simp;try omega) _)
  exact b4
end Go.Proofs.YtlibhkkckgkkkaaGreatDoor.Tf
namespace Go.Proofs.YtlibhkkckgkkkaaGreatDoor.Tf
open Go.RowKit Go.Proofs.YtlibhkkckgkkkaaGreatDoor.Mem Go.Proofs.YtlibhkkckgkkkaaGreatDoor.Boo Go.Proofs.YtlibhkkckgkkkaaGreatDoor.MoneyA
abbrev pcW (s:ByteArray):Pc:=⟨1,s.data.toList,0,false⟩
abbrev pcO:Pc:=⟨4,[40],0,false⟩
abbrev pcC:Pc:=⟨4,[41],0,false⟩
abbrev pcV:Pc:=⟨4,[44],0,true⟩
abbrev pcM (n:Int):Pc:=⟨3,(dR n).data.toList,n,false⟩
abbrev pcK (n:Int):Pc:=⟨2,(bP n).data.toList,n,false⟩
def kF (k n:Int) (s:ByteArray):List Pc:=
 if k=3 then[pcW s] else if k=5 then[pcV,pcM n] else if k=6 then[pcV,pcK n] else if k=11 then[pcK n] else[]
mutual
def eR:Ex→List Pc
 |.node k n s xs=>if k=4 then[pcM n] else if k=1∨k=2 then[pcW (aY k)] else pcW (aY k)::pcO::(iC true xs++(kF k n s++[pcC]))
def iC:Bool→List Ex→List Pc
 |_,[]=>[]
 |f,x::xs=>(if f then[] else[pcV])++(eR x++iC false xs)
end
inductive Gen:Nat→Bool→Ex→Prop
 |low (d:Nat):Gen (d+1) false (.node 1 0 ⟨#[]⟩ [])
 |sec (d:Nat):Gen (d+1) false (.node 2 0 ⟨#[]⟩ [])
 |frm (d k:Nat) (h:k<60):Gen (d+1) false (.node 3 0 (aK k) [])
 |fix (d n:Nat) (h:n<3000):Gen (d+1) false (.node 4 n ⟨#[]⟩ [])
 |less (d n:Nat) (h:n<3000) (x:Ex) (hx:Gen d false x):Gen (d+1) false (.node 5 n ⟨#[]⟩ [x])
 |cut (d n:Nat) (h:n<12000) (x:Ex) (hx:Gen d false x):Gen (d+1) false (.node 6 n ⟨#[]⟩ [x])
 |two (d:Nat) (k:Int) (h:k=7∨k=8∨k=9) (x y:Ex) (hx:Gen d false x) (hy:Gen d false y):Gen (d+1) false (.node k 0 ⟨#[]⟩ [x,y])
 |iff (d:Nat) (c x y:Ex) (hc:Gen d true c) (hx:Gen d false x) (hy:Gen d false y):Gen (d+1) false (.node 10 0 ⟨#[]⟩ [c,x,y])
 |more (d n:Nat) (h:n<7):Gen (d+1) true (.node 11 n ⟨#[]⟩ [])
 |abv (d:Nat) (x y:Ex) (hx:Gen d false x) (hy:Gen d false y):Gen (d+1) true (.node 12 0 ⟨#[]⟩ [x,y])
def okW (p:Pc):Bool:=p.k !=5&&!p.s.isEmpty&&p.s.all parB&&(let r:=kE (bl p.s);r.2&&r.1.k==p.k&&eqS r.1.s (bl p.s)&&r.1.n==p.n&&r.1.a==0)
theorem aHk {p:Pc} (h:okW p=true):OkW p:=by
 unfold okW at h
 simp only[Bool.and_eq_true,bne_iff_ne,Bool.not_eq_true',List.isEmpty_eq_false_iff,List.all_eq_true,beq_iff_eq] at h
 obtain⟨⟨⟨h1,h2⟩,h3⟩,⟨⟨⟨h4,h5⟩,h6⟩,h7⟩,h8⟩:=h
 refine⟨h1,h2,h3,?_⟩
 rcases hr:kE (bl p.s) with⟨⟨a,b,c,d⟩,e⟩
 rw[hr] at h4 h5 h6 h7 h8
 dsimp only at h4 h5 h6 h7 h8
 rw[h4,h5,kB h6,h7,h8]
def allN (f:Nat→Bool):Nat→Nat→Bool
 |_,0=>true
 |a,n+1=>f a&&allN f (a+1) n
theorem mQ {f:Nat→Bool}:∀{n a:Nat},allN f a n=true→∀k,a≤k→k<a+n→f k=true:=by
 intro n
 induction n with
 |zero=>intro a _ k h1 h2;omega
 |succ n ih=>
  intro a h k h1 h2
  rw[allN,Bool.and_eq_true] at h
  rcases Nat.eq_or_lt_of_le h1 with rfl|h3
  ·exact h.1
  ·exact ih h.2 k h3 (by omega)
def SgH (r:List Pc):Prop:=r=[]∨∃q r',r=q::r'∧OkS q
theorem jT:OkS pcO:=⟨rfl,rfl,40,rfl,.inl rfl⟩
theorem jU:OkS pcC:=⟨rfl,rfl,41,rfl,.inr (.inl rfl)⟩
theorem lK:OkS pcV:=⟨rfl,rfl,44,rfl,.inr (.inr rfl)⟩
theorem bZ {q:Pc} (h:OkS q) (r:List Pc):SgH (q::r):=.inr ⟨q,r,rfl,h⟩
theorem gL {q:Pc} (h:OkS q) {r:List Pc} (hr:Okp r):Okp (q::r):=⟨.inl h,hr⟩
theorem jS {q:Pc} (h:OkW q) {r:List Pc} (hs:SgH r) (hr:Okp r):Okp (q::r):=⟨.inr ⟨h,.inr hs⟩,hr⟩
theorem oG (k:Int) (h:k=1∨k=2∨k=3∨k=5∨k=6∨k=7∨k=8∨k=9∨k=10∨k=11∨k=12):OkW (pcW (aY k)):=by
 rcases h with rfl|rfl|rfl|rfl|rfl|rfl|rfl|rfl|rfl|rfl|rfl <;> exact aHk (by decide +kernel)
theorem aC9 (k:Nat) (h:k<60):OkW (pcW (aK k)):=aHk (mQ (f:=fun k=>okW (pcW (aK k))) (n:=60) (a:=0) (by decide +kernel) k (Nat.zero_le _) (by omega))
theorem aB2 {d:Nat} {c:Bool} {x:Ex} (h:Gen d c x):∀r,SgH r→Okp r→Okp (eR x++r):=by
 induction h with
 |low d=>intro r hs hr;exact jS (oG 1 (by decide)) hs hr
 |sec d=>intro r hs hr;exact jS (oG 2 (by decide)) hs hr
 |frm d k h=>intro r hs hr;exact jS (oG 3 (by decide)) (bZ jT _) (gL jT (jS (aC9 k h) (bZ jU _) (gL jU hr)))
 |fix d n h=>intro r hs hr;exact jS (aG2 n (by omega)) hs hr
 |less d n h x hx ih=>
  intro r hs hr
  have:=jS (oG 5 (by decide)) (bZ jT _) (gL jT (ih _ (bZ lK _) (gL lK (jS (aG2 n (by omega)) (bZ jU _) (gL jU hr)))))
  simpa[eR,iC,kF] using this
 |cut d n h x hx ih=>
  intro r hs hr
  have:=jS (oG 6 (by decide)) (bZ jT _) (gL jT (ih _ (bZ lK _) (gL lK (jS (aG3 n (by omega)) (bZ jU _) (gL jU hr)))))
  simpa[eR,iC,kF] using this
 |two d k h x y hx hy ihx ihy=>
  intro r hs hr
  have:=jS (oG k (by omega)) (bZ jT _) (gL jT (ihx _ (bZ lK _) (gL lK (ihy _ (bZ jU _) (gL jU hr)))))
  rcases h with rfl|rfl|rfl <;> simpa[eR,iC,kF] using this
 |iff d c x y hc hx hy ihc ihx ihy=>
  intro r hs hr
  have:=jS (oG 10 (by decide)) (bZ jT _) (gL jT (ihc _ (bZ lK _) (gL lK (ihx _ (bZ lK _) (gL lK (ihy _ (bZ jU _) (gL jU hr)))))))
  simpa[eR,iC,kF] using this
 |more d n h=>intro r hs hr;exact jS (oG 11 (by decide)) (bZ jT _) (gL jT (jS (aG3 n (by omega)) (bZ jU _) (gL jU hr)))
 |abv d x y hx hy ihx ihy=>
  intro r hs hr
  have:=jS (oG 12 (by decide)) (bZ jT _) (gL jT (ihx _ (bZ lK _) (gL lK (ihy _ (bZ jU _) (gL jU hr)))))
  simpa[eR,iC,kF] using this
theorem jD {p:Pc} {ps:List Pc} {l:List Tok} (h:jA (p::ps) l):∃t l',l=t::l'∧fitP p t∧jA ps l':=by
 cases l with
 |nil=>cases h
 |cons t l=>exact⟨t,l,rfl,h.1,h.2⟩
theorem kI {p:Pc} {ps:List Pc} {l:List Tok} (ok:Tok→Bool) (h:jA (p::ps) l) (h5:p.k≠5) (hok:∀a,ok ⟨p.k,bl p.s,p.n,a⟩=true):∃a l',bK p.k ok l=.ok (⟨p.k,bl p.s,p.n,a⟩,l')∧jA ps l':=by
 obtain⟨⟨k,s,n,a⟩,l',rfl,⟨h1,h2,h3⟩,h4⟩:=jD h
 dsimp only at h1 h2 h3
 subst h1 h2 h3
 refine⟨a,l',?_,h4⟩
 unfold bK
 dsimp only
 rw[if_pos (by simp[oJ,hok]),if_neg h5]
theorem cW {c:UInt8} {b:Bool} {n:Int} {ps:List Pc} {l:List Tok} (h:jA (⟨4,[c],n,b⟩::ps) l):∃t l',bM ⟨#[c]⟩ l=.ok (t,l')∧jA ps l':=by
 obtain⟨a,l',h1,h2⟩:=kI (fun t=>eqS t.s ⟨#[c]⟩) h (by show(4:Int)≠5;decide) (fun a=>oN _)
 exact⟨_,l',h1,h2⟩
theorem pQ (k:Int) (cond:Bool) (h:if cond then k=11∨k=12 else k=1∨k=2∨k=3∨k=5∨k=6∨k=7∨k=8∨k=9∨k=10) (n a:Int):fJ cond ⟨1,bl (aY k).data.toList,n,a⟩=some k:=by
 have e:fJ cond ⟨1,bl (aY k).data.toList,n,a⟩=fJ cond ⟨1,aY k,0,0⟩:=rfl
 rw[e]
 cases cond with
 |true=>rcases h with rfl|rfl <;> decide +kernel
 |false=>rcases h with rfl|rfl|rfl|rfl|rfl|rfl|rfl|rfl|rfl <;> decide +kernel
theorem aBd (s:ByteArray) (n a:Int):fJ false ⟨3,s,n,a⟩=some 4:=by unfold fJ;rw[if_pos ⟨rfl,rfl⟩]
theorem gC {f:Nat} {cond:Bool} {k:Int} {q:List Pc} {l:List Tok} (hk:if cond then k=11∨k=12 else k=3∨k=5∨k=6∨k=7∨k=8∨k=9∨k=10) (h:jA (pcW (aY k)::q) l):
 ∃l',eX (f+1) cond l=rO (eX f) k l'∧jA q l':=by
 obtain⟨⟨k1,s,n,a⟩,l',rfl,⟨h1,h2,h3⟩,h4⟩:=jD h
 dsimp only at h1 h2 h3
 subst h1 h2 h3
 refine⟨l',?_,h4⟩
 rw[eX,pQ k cond (by cases cond <;> revert hk <;> simp <;> omega)]
 dsimp only
 rw[if_neg (by cases cond <;> revert hk <;> simp <;> omega)]
 have:bK 1 (fun _=>true) ((⟨1,bl (aY k).data.toList,0,a⟩:Tok)::l')=.ok (⟨1,bl (aY k).data.toList,0,a⟩,l'):=by
  unfold bK
  dsimp only
  rw[if_pos (by simp[oJ]),if_neg (by decide)]
 rw[this]
 dsimp only
 rw[if_neg (by cases cond <;> revert hk <;> simp <;> omega)]
theorem iK {pe:Bool→List Tok→PR Ex} {k:Int} {q:List Pc} {l:List Tok} (h:jA (pcO::q) l):∃l',jA q l'∧rO pe k l=(match bW pe k (cH k).toNat 0 l' with
 |.error e=>.error e
 |.ok (xs,l3)=>match dH k l3 with
  |.error e=>.error e
  |.ok ((n,s),l4)=>match bM nI l4 with
   |.error e=>.error e
   |.ok (_,l5)=>.ok (.node k n s xs,l5)):=by
 obtain⟨t,l',h1,h2⟩:=cW h
 refine⟨l',h2,?_⟩
 unfold rO
 rw[show bM opnB l=.ok (t,l') from h1]
 rfl
theorem aEf {d:Nat} {c:Bool} {x:Ex} (h:Gen d c x):∀f,d≤f→∀ps l,jA (eR x++ps) l→∃l',eX f c l=.ok (x,l')∧jA ps l':=by
 induction h with
 |low d=>
  intro f hf ps l hl
  obtain⟨f,rfl⟩:∃g,f=g+1:=⟨f-1,by omega⟩
  obtain⟨⟨k1,s,n,a⟩,l',rfl,⟨h1,h2,h3⟩,h4⟩:=jD hl
  dsimp only at h1 h2 h3
  subst h1 h2 h3
  refine⟨l',?_,h4⟩
  rw[eX,pQ 1 false (by simp)]
  simp[bK,oJ]
 |sec d=>
  intro f hf ps l hl
  obtain⟨f,rfl⟩:∃g,f=g+1:=⟨f-1,by omega⟩
  obtain⟨⟨k1,s,n,a⟩,l',rfl,⟨h1,h2,h3⟩,h4⟩:=jD hl
  dsimp only at h1 h2 h3
  subst h1 h2 h3
  refine⟨l',?_,h4⟩
  rw[eX,pQ 2 false (by simp)]
  simp[bK,oJ]
 |fix d n hn=>
  intro f hf ps l hl
  obtain⟨f,rfl⟩:∃g,f=g+1:=⟨f-1,by omega⟩
  obtain⟨⟨k1,s,n',a⟩,l',rfl,⟨h1,h2,h3⟩,h4⟩:=jD (show jA (pcM n::ps) l from hl)
  dsimp only at h1 h2 h3
  subst h1 h2 h3
  refine⟨l',?_,h4⟩
  rw[eX,aBd]
  simp[bK,oJ]
 |frm d k hk=>
  intro f hf ps l hl
  obtain⟨f,rfl⟩:∃g,f=g+1:=⟨f-1,by omega⟩
  obtain⟨l1,e1,h1⟩:=gC (f:=f) (cond:=false) (k:=3) (by simp) (show jA (pcW (aY 3)::pcO::pcW (aK k)::pcC::ps) l from hl)
  obtain⟨l2,h2,e2⟩:=iK (pe:=eX f) (k:=3) h1
  obtain⟨a,l3,e3,h3⟩:=kI (fun t=>aZ t.s) h2 (by show(1:Int)≠5;decide) (fun a=>by
   have:aZ (aK k)=true:=mQ (f:=fun k=>aZ (aK k)) (n:=60) (a:=0) (by decide +kernel) k (Nat.zero_le _) (by omega)
   exact this)
  obtain⟨t,l4,e4,h4⟩:=cW h3
  refine⟨l4,?_,h4⟩
  rw[e1,e2]
  dsimp only at e3
  simp only[show(cH 3).toNat=0 from rfl,bW,dH,if_pos,e3,show bM nI l3=_ from e4]
 |less d n hn x hx ih=>
  intro f hf ps l hl
  obtain⟨f,rfl⟩:∃g,f=g+1:=⟨f-1,by omega⟩
  obtain⟨l1,e1,h1⟩:=gC (f:=f) (cond:=false) (k:=5) (by simp) (show jA (pcW (aY 5)::pcO::(eR x++(pcV::pcM n::pcC::ps))) l from by simpa[eR,iC,kF] using hl)
  obtain⟨l2,h2,e2⟩:=iK (pe:=eX f) (k:=5) h1
  obtain⟨l3,e3,h3⟩:=ih f (by omega) _ _ h2
  obtain⟨t4,l4,e4,h4⟩:=cW h3
  obtain⟨a,l5,e5,h5⟩:=kI (fun t=>decide (t.n≤aO 5)) h4 (by show(3:Int)≠5;decide) (fun a=>decide_eq_true (by show(n:Int)≤1000000000000;omega))
  obtain⟨t6,l6,e6,h6⟩:=cW h5
  refine⟨l6,?_,h6⟩
  rw[e1,e2]
  dsimp only at e5
  simp[show(cH 5).toNat=1 from rfl,bW,dH,sX,e3,show bM iN l3=_ from e4,e5,show bM nI l5=_ from e6]
 |cut d n hn x hx ih=>
  intro f hf ps l hl
  obtain⟨f,rfl⟩:∃g,f=g+1:=⟨f-1,by omega⟩
  obtain⟨l1,e1,h1⟩:=gC (f:=f) (cond:=false) (k:=6) (by simp) (show jA (pcW (aY 6)::pcO::(eR x++(pcV::pcK n::pcC::ps))) l from by simpa[eR,iC,kF] using hl)
  obtain⟨l2,h2,e2⟩:=iK (pe:=eX f) (k:=6) h1
  obtain⟨l3,e3,h3⟩:=ih f (by omega) _ _ h2
  obtain⟨t4,l4,e4,h4⟩:=cW h3
  obtain⟨a,l5,e5,h5⟩:=kI (fun t=>decide (t.n≤aO 6)) h4 (by show(2:Int)≠5;decide) (fun a=>decide_eq_true (by show(n:Int)≤100000;omega))
  obtain⟨t6,l6,e6,h6⟩:=cW h5
  refine⟨l6,?_,h6⟩
  rw[e1,e2]
  dsimp only at e5
  simp[show(cH 6).toNat=1 from rfl,bW,dH,sX,e3,show bM iN l3=_ from e4,e5,show bM nI l5=_ from e6]
 |two d k hk x y hx hy ihx ihy=>
  intro f hf ps l hl
  obtain⟨f,rfl⟩:∃g,f=g+1:=⟨f-1,by omega⟩
  obtain⟨l1,e1,h1⟩:=gC (f:=f) (cond:=false) (k:=k) (by simp;omega) (show jA (pcW (aY k)::pcO::(eR x++(pcV::(eR y++(pcC::ps))))) l from by rcases hk with rfl|rfl|rfl <;> simpa[eR,iC,kF] using hl)
  obtain⟨l2,h2,e2⟩:=iK (pe:=eX f) (k:=k) h1
  obtain⟨l3,e3,h3⟩:=ihx f (by omega) _ _ h2
  obtain⟨t4,l4,e4,h4⟩:=cW h3
  obtain⟨l5,e5,h5⟩:=ihy f (by omega) _ _ h4
  obtain⟨t6,l6,e6,h6⟩:=cW h5
  refine⟨l6,?_,h6⟩
  rw[e1,e2]
  rcases hk with rfl|rfl|rfl
  ·simp[show(cH 7).toNat=2 from rfl,bW,dH,e3,show bM iN l3=_ from e4,e5,show bM nI l5=_ from e6]
  ·simp[show(cH 8).toNat=2 from rfl,bW,dH,e3,show bM iN l3=_ from e4,e5,show bM nI l5=_ from e6]
  ·simp[show(cH 9).toNat=2 from rfl,bW,dH,e3,show bM iN l3=_ from e4,e5,show bM nI l5=_ from e6]
 |iff d c x y hc hx hy ihc ihx ihy=>
  intro f hf ps l hl
  obtain⟨f,rfl⟩:∃g,f=g+1:=⟨f-1,by omega⟩
  obtain⟨l1,e1,h1⟩:=gC (f:=f) (cond:=false) (k:=10) (by simp) (show jA (pcW (aY 10)::pcO::(eR c++(pcV::(eR x++(pcV::(eR y++(pcC::ps))))))) l from by simpa[eR,iC,kF] using hl)
  obtain⟨l2,h2,e2⟩:=iK (pe:=eX f) (k:=10) h1
  obtain⟨l3,e3,h3⟩:=ihc f (by omega) _ _ h2
  obtain⟨t4,l4,e4,h4⟩:=cW h3
  obtain⟨l5,e5,h5⟩:=ihx f (by omega) _ _ h4
  obtain⟨t6,l6,e6,h6⟩:=cW h5
  obtain⟨l7,e7,h7⟩:=ihy f (by omega) _ _ h6
  obtain⟨t8,l8,e8,h8⟩:=cW h7
  refine⟨l8,?_,h8⟩
  rw[e1,e2]
  simp[show(cH 10).toNat=3 from rfl,bW,dH,e3,show bM iN l3=_ from e4,e5,show bM iN l5=_ from e6,e7,show bM nI l7=_ from e8]
 |more d n hn=>
  intro f hf ps l hl
  obtain⟨f,rfl⟩:∃g,f=g+1:=⟨f-1,by omega⟩
  obtain⟨l1,e1,h1⟩:=gC (f:=f) (cond:=true) (k:=11) (by simp) (show jA (pcW (aY 11)::pcO::pcK n::pcC::ps) l from hl)
  obtain⟨l2,h2,e2⟩:=iK (pe:=eX f) (k:=11) h1
  obtain⟨a,l3,e3,h3⟩:=kI (fun t=>decide (t.n≤aO 11)) h2 (by show(2:Int)≠5;decide) (fun a=>decide_eq_true (by show(n:Int)≤1000;omega))
  obtain⟨t,l4,e4,h4⟩:=cW h3
  refine⟨l4,?_,h4⟩
  rw[e1,e2]
  dsimp only at e3
  simp[show(cH 11).toNat=0 from rfl,bW,dH,sX,e3,show bM nI l3=_ from e4]
 |abv d x y hx hy ihx ihy=>
  intro f hf ps l hl
  obtain⟨f,rfl⟩:∃g,f=g+1:=⟨f-1,by omega⟩
  obtain⟨l1,e1,h1⟩:=gC (f:=f) (cond:=true) (k:=12) (by simp) (show jA (pcW (aY 12)::pcO::(eR x++(pcV::(eR y++(pcC::ps))))) l from by simpa[eR,iC,kF] using hl)
  obtain⟨l2,h2,e2⟩:=iK (pe:=eX f) (k:=12) h1
  obtain⟨l3,e3,h3⟩:=ihx f (by omega) _ _ h2
  obtain⟨t4,l4,e4,h4⟩:=cW h3
  obtain⟨l5,e5,h5⟩:=ihy f (by omega) _ _ h4
  obtain⟨t6,l6,e6,h6⟩:=cW h5
  refine⟨l6,?_,h6⟩
  rw[e1,e2]
  simp[show(cH 12).toNat=2 from rfl,bW,dH,e3,show bM iN l3=_ from e4,e5,show bM nI l5=_ from e6]
theorem aIm {ps:List Pc} {p:Pc} (h:p∈ps):p.s.length≤(cP ps).length:=by
 induction ps with
 |nil=>cases h
 |cons q r ih=>
  rw[cP,lA,lA]
  rcases List.mem_cons.1 h with rfl|h
  ·omega
  ·have:=ih h;omega
theorem aEn {ps:List Pc} {l:List Tok} (h:jA ps l) (hl:(cP ps).length≤2000):gT l:=by
 have key:∀(ps:List Pc) (l:List Tok),jA ps l→lN l∧(∀t∈l,t.s=bl []∨∃p∈ps,t.s=bl p.s):=by
  intro ps
  induction ps with
  |nil=>
   intro l h
   match l,h with
   |[t],h=>exact⟨⟨[],t,rfl,h.1⟩,fun u hu=>.inl (by rw[List.mem_singleton.1 hu];exact h.2)⟩
  |cons p r ih=>
   intro l h
   obtain⟨t,l',rfl,h1,h2⟩:=jD h
   obtain⟨⟨i,e,hi,he⟩,h4⟩:=ih l' h2
   refine⟨⟨t::i,e,by rw[hi];rfl,he⟩,fun u hu=>?_⟩
   rcases List.mem_cons.1 hu with rfl|hu
   ·exact .inr ⟨p,by simp,h1.2.1⟩
   ·rcases h4 u hu with h5|⟨q,hq,h5⟩
    ·exact .inl h5
    ·exact .inr ⟨q,List.mem_cons_of_mem _ hq,h5⟩
 obtain⟨h1,h2⟩:=key ps l h
 refine⟨h1,fun t ht=>?_⟩
 rcases h2 t ht with h3|⟨p,hp,h3⟩
 ·rw[h3];decide
 ·rw[h3,eM]
  have:=aIm hp
  omega
def aM (x:Ex):List UInt8:=cP (eR x)
theorem wG {d:Nat} {x:Ex} (h:Gen d false x) (hd:d≤32) (hl:(aM x).length≤2000):∃l t,lexL (bl (aM x))=.ok l∧gT l∧eX 32 false l=.ok (x,[t])∧t.k=5:=by
 have ho:=aB2 h [] (.inl rfl) trivial
 rw[List.append_nil] at ho
 obtain⟨l,h1,h2⟩:=zP _ ho hl
 obtain⟨l',h3,h4⟩:=aEf h 32 hd [] l (by rw[List.append_nil];exact h2)
 match l',h4 with
 |[t],h4=>exact⟨l,t,h1,aEn h2 hl,h3,h4.1⟩
theorem rN {d:Nat} {x:Ex} (h:Gen d false x) (hd:d≤32) (hl:(aM x).length≤2000) (w:World) (G:Gl w):
 Calls Tryz.prog 13 #[.string (bl (aM x))] w fun e w'=>(∃v:EV,e=.returned (.tuple #[.agg #[.int .i64 v.k,.int .i64 v.n,.string v.s,.slice v.A v.m v.c],.int .i64 0,.int .i64 0])∧bB (fun b=>w.heap.size≤b) w' x v)∧Below w.heap.size w w':=by
 obtain⟨l,t,h1,h2,h3,h4⟩:=wG h hd hl
 exact aG8 _ l x t h1 h2 h3 h4 w G
end Go.Proofs.YtlibhkkckgkkkaaGreatDoor.Tf
namespace Go.Proofs.YtlibhkkckgkkkaaGreatDoor.Tf
open Go.RowKit Go.Proofs.YtlibhkkckgkkkaaGreatDoor.Mem Go.Proofs.YtlibhkkckgkkkaaGreatDoor.Boo Go.Proofs.Tryz
theorem fF (k:Nat) (h:k<60):aZ (aK k)=true:=mQ (f:=fun k=>aZ (aK k)) (n:=60) (a:=0) (by decide +kernel) k (Nat.zero_le _) (by omega)
structure Node (d:Nat) (c:Bool) (k n:Int) (s:ByteArray) (xs:List Ex):Prop where
 ok:qD k=true
 cond:pY k=c
 lo:0≤n
 hi:n≤aO k
 args:cH k=(xs.length:Int)
 name:(k=3∧aZ s=true)∨(k≠3∧s=⟨#[]⟩)
 sub:∀i x,xs[i]?=some x→Gen d (decide (k=10)&&decide (i=0)) x
theorem iU {d:Nat} {c:Bool} {k n:Int} {s:ByteArray} {xs:List Ex} (h:Gen (d+1) c (.node k n s xs)):Node d c k n s xs:=by
 cases h with
 |low=>exact⟨rfl,rfl,by decide,by decide,rfl,.inr ⟨by decide,rfl⟩,fun i x h=>by simp at h⟩
 |sec=>exact⟨rfl,rfl,by decide,by decide,rfl,.inr ⟨by decide,rfl⟩,fun i x h=>by simp at h⟩
 |frm d k h=>exact⟨rfl,rfl,by decide,by decide,rfl,.inl ⟨rfl,fF k h⟩,fun i x h=>by simp at h⟩
 |fix d n h=>exact⟨rfl,rfl,by omega,(by show(n:Int)≤1000000000000;omega),rfl,.inr ⟨by decide,rfl⟩,fun i x h=>by simp at h⟩
 |less d n h x hx=>exact⟨rfl,rfl,by omega,(by show(n:Int)≤1000000000000;omega),rfl,.inr ⟨by decide,rfl⟩,fun i y hy=>by
   rcases i with _|i
   ·simp at hy;subst hy;simpa using hx
   ·simp at hy⟩
 |cut d n h x hx=>exact⟨rfl,rfl,by omega,(by show(n:Int)≤100000;omega),rfl,.inr ⟨by decide,rfl⟩,fun i y hy=>by
   rcases i with _|i
   ·simp at hy;subst hy;simpa using hx
   ·simp at hy⟩
 |two d k h x y hx hy=>
  rcases h with rfl|rfl|rfl <;> exact⟨rfl,rfl,by decide,by decide,rfl,.inr ⟨by decide,rfl⟩,fun i z hz=>by
   rcases i with _|_|i
   ·simp at hz;subst hz;simpa using hx
   ·simp at hz;subst hz;simpa using hy
   ·simp at hz⟩
 |iff d c x y hc hx hy=>exact⟨rfl,rfl,by decide,by decide,rfl,.inr ⟨by decide,rfl⟩,fun i z hz=>by
   rcases i with _|_|_|i
   ·simp at hz;subst hz;simpa using hc
   ·simp at hz;subst hz;simpa using hx
   ·simp at hz;subst hz;simpa using hy
   ·simp at hz⟩
 |more d n h=>exact⟨rfl,rfl,by omega,(by show(n:Int)≤1000;omega),rfl,.inr ⟨by decide,rfl⟩,fun i x h=>by simp at h⟩
 |abv d x y hx hy=>exact⟨rfl,rfl,by decide,by decide,rfl,.inr ⟨by decide,rfl⟩,fun i z hz=>by
   rcases i with _|_|i
   ·simp at hz;subst hz;simpa using hx
   ·simp at hz;subst hz;simpa using hy
   ·simp at hz⟩
theorem aIn:∀(d:Nat) (c:Bool) (x:Ex),Gen d c x→∀(deep:Int),(d:Int)≤deep→deep≤1000→∀(v:EV) (S:Nat→Prop) (w:World),bB S w x v→Calls prog 93 #[v.v,.int .i64 deep,.bool c] w (Ret (.bool true) w):=by
 intro d
 induction d with
 |zero=>intro c x h;cases h
 |succ d ih=>
  intro cnd x h deep hd hd2 v S w hat0
  obtain⟨k,n,s,xs⟩:=x
  obtain⟨A,c,vs,rfl,hv,hat,hx⟩:=hat0.parts
  obtain⟨hok,hcond,hlo,hhi,hargs,hname,hsub⟩:=iU h
  obtain⟨m,hm⟩:∃m,xs.length=m:=⟨_,rfl⟩
  rw[hm] at hargs
  have HIH:Hid (∀(i:Nat) (x:Ex) (u:EV),xs[i]?=some x→vs[i]?=some u→∀W,Below w.heap.size w W→Calls prog 93 #[u.v,.int .i64 (deep-1),.bool (decide (k=10)&&decide (i=0))] W (Ret (.bool true) W)):=Hd (fun i x u h1 h2 W hb=>ih _ x (hsub i x h1) (deep-1) (by omega) (by omega) u S W ((hx i x u h1 h2).onBelow hb))
  have HFO:Hid (∀W,Calls prog 161 #[.int .i64 k] W (Ret (.tuple #[.string (aY k),.int .i64 (aO k),.int .i64 m,.bool true]) W)):=Hd (fun W=>by rw[←hargs,←hok];exact cZ k W)
  have HCO:Hid (∀W,Calls prog 165 #[.int .i64 k] W (Ret (.bool cnd) W)):=Hd (fun W=>by rw[←hcond];exact aJt k W)
  have HNA:Hid (∀W,Calls prog 166 #[.agg #[.int .i64 k,.int .i64 n,.string s,.slice A m c]] W (Ret (.bool true) W)):=Hd (fun W=>aHp k n s A m c hname W)
  have HAT:=Hd hat
  have HV:Hid (vs.length=m):=Hd (hv.trans hm)
  have HM:=Hd hm
  have HMX:Hid (m≤c∧c≤9223372036854775807):=Hd ⟨by have:=hat.le;omega,hat.max⟩
  generalize aO k=mo at HFO hhi
  generalize aY k=wo at HFO
  have z1:¬deep<1:=by omega
  have z2:¬n<0:=by omega
  have z3:¬mo<n:=by omega
  have HZ4:Hid (wrap64 (deep-1)=deep-1):=Hd (Mem.w64 (by omega) (by omega))
  rw[hm]
  unfold EV.v
  clear hv hat hx hm ih h hok hcond hlo hhi hargs hname hsub hd hd2 hat0
  have z5:(cnd==cnd)=true:=by simp
  go_enter func93,ntmps93
  go_wp2_with (first
   |(go_at_call 161;go_must (refine rC w (HFO.out _) ?_;intro wq1 hb Bq1;obtain⟨⟨kc1_0_0,kc1_0_1,kc1_0_2,kc1_0_3⟩,kl1_0,kf1_0⟩:=kb4 hb (w.heap.size) (.int .i64 k) (.int .i64 n) (.string s) (.slice A m c);clear hb))
   |(go_at_call 165;go_must (refine rC w (HCO.out _) ?_;intro wq2 hb Bq2;obtain⟨⟨kc2_0_0,kc2_0_1,kc2_0_2,kc2_0_3⟩,kl2_0,kf2_0⟩:=kb4 hb (w.heap.size) (.int .i64 k) (.int .i64 n) (.string s) (.slice A m c);clear hb))
   |(go_at_call 166;go_must (refine rC w (HNA.out _) ?_;intro wq3 hb Bq3;obtain⟨⟨kc3_0_0,kc3_0_1,kc3_0_2,kc3_0_3⟩,kl3_0,kf3_0⟩:=kb4 hb (w.heap.size) (.int .i64 k) (.int .i64 n) (.string s) (.slice A m c);clear hb)))
  go_loopw [60] (fun iv wr=>∃i:Nat,i≤m∧iv=.int .i64 i∧Hid (Below w.heap.size w wr)∧wr.cell? ⟨w.heap.size,0,none⟩=some (.int .i64 k)) (fun iv _=>m-(intOf iv).toNat)
  case atStart=>exact⟨0,Nat.zero_le _,rfl,Hd blw,by assumption⟩
  case round=>
   obtain⟨i,him,rfl,HB,kc0⟩:=hrel
   have kl:w.heap.size<wr.heap.size:=bL wr ⟨w.heap.size,0,none⟩ kc0
   by_cases hlt:i<m
   ·have hxi:xs[i]?=some (xs[i]'(by have:=HM.out;omega)):=gE _
    have hvi:vs[i]?=some (vs[i]'(by have:=HV.out;omega)):=gE _
    have HI:=HIH.out i _ _ hxi hvi
    obtain⟨b,off,rfl,hbl,c0,c1,c2,c3⟩:=eY (HAT.out.below HB.out) i _ hvi
    generalize vs[i]'(by have:=HV.out;omega)=u at HI c0 c1 c2 c3 hvi
    obtain⟨uk,un,us,uA,um,uc⟩:=u
    dsimp only at c0 c1 c2 c3
    have HZI:Hid (wrap64 ((i:Int)+1)=((i+1:Nat):Int)):=Hd (by rw[Mem.w64 (by omega) (by have:=HMX.out;omega)];omega)
    have zlt:(i:Int)<(m:Int):=by omega
    have HLT:=Hd hlt
    clear hxi hvi hlt
    by_cases hk:k=10
    ·subst hk
     by_cases hi0:i=0
     ·subst hi0
      simp only[Nat.zero_mul,Nat.add_zero] at c0 c1 c2 c3
      have HI2:Hid (∀W,Below w.heap.size w W→Calls prog 93 #[.agg #[.int .i64 uk,.int .i64 un,.string us,.slice uA um uc],.int .i64 (deep-1),.bool true] W (Ret (.bool true) W)):=Hd (fun W hb=>by simpa[EV.v, *] using HI W hb)
      clear HI
      have z4:=HZ4.out
      go_wp2_with (go_at_call 93;go_must (refine rC w (HI2.out _ blw) ?_;intro W hb HB2;have kd0:W.cell? ⟨w.heap.size,0,none⟩=some (.int .i64 10):=aC hb (by go_simp);clear hb))
      clear z4
      go_roundw
      case rel=>exact⟨0+1,HLT.out,(by first|rw[HZI.out]|rfl|simp),HB2,kd0⟩
      case measure=>have:=HLT.out;(try rw[HZI.out]);simp[intOf];omega
     ·have zi0:((i:Int)==0)=false:=bN (by omega)
      have HI2:Hid (∀W,Below w.heap.size w W→Calls prog 93 #[.agg #[.int .i64 uk,.int .i64 un,.string us,.slice uA um uc],.int .i64 (deep-1),.bool false] W (Ret (.bool true) W)):=Hd (fun W hb=>by simpa[EV.v, *] using HI W hb)
      clear HI
      have z4:=HZ4.out
      go_wp2_with (go_at_call 93;go_must (refine rC w (HI2.out _ blw) ?_;intro W hb HB2;have kd0:W.cell? ⟨w.heap.size,0,none⟩=some (.int .i64 10):=aC hb (by go_simp);clear hb))
      clear z4
      go_roundw
      case rel=>exact⟨i+1,HLT.out,(by first|rw[HZI.out]|rfl|simp),HB2,kd0⟩
      case measure=>have:=HLT.out;(try rw[HZI.out]);simp[intOf];omega
    ·have zk:(k==10)=false:=bN hk
     have HI2:Hid (∀W,Below w.heap.size w W→Calls prog 93 #[.agg #[.int .i64 uk,.int .i64 un,.string us,.slice uA um uc],.int .i64 (deep-1),.bool false] W (Ret (.bool true) W)):=Hd (fun W hb=>by simpa[EV.v, *] using HI W hb)
     clear HI
     have z4:=HZ4.out
     go_wp2_with (go_at_call 93;go_must (refine rC w (HI2.out _ blw) ?_;intro W hb HB2;have kd0:W.cell? ⟨w.heap.size,0,none⟩=some (.int .i64 k):=aC hb (by go_simp);clear hb))
     clear z4
     go_roundw
     case rel=>exact⟨i+1,HLT.out,(by first|rw[HZI.out]|rfl|simp),HB2,kd0⟩
     case measure=>have:=HLT.out;(try rw[HZI.out]);simp[intOf];omega
   ·obtain rfl:i=m:=by omega
    clear hlt
    go_wp2
    go_ret
    exact⟨rfl,HB.out⟩
end Go.Proofs.YtlibhkkckgkkkaaGreatDoor.Tf
