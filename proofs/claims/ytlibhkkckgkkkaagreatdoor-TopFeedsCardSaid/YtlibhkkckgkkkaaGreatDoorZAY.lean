/- Part of the proof of TopFeeds: RunA. -/
import Derived.Test.YtlibhkkckgkkkaaGreatDoorZAX
set_option maxHeartbeats 2000000
set_option maxRecDepth 100000
namespace Go.Proofs.YtlibhkkckgkkkaaGreatDoor.Tf
open Go.RowKit Go.Proofs.YtlibhkkckgkkkaaGreatDoor.Mem Go.Proofs.YtlibhkkckgkkkaaGreatDoor.Boo Go.Proofs.Tryz
inductive fQ (a M:Nat):Ins→Prop
 |push (n:Nat) (h:n<3000):fQ a M ⟨1,n,⟨#[]⟩⟩
 |low:fQ a M ⟨2,0,⟨#[]⟩⟩
 |sec:fQ a M ⟨3,0,⟨#[]⟩⟩
 |frm (k:Nat) (h:k<60):fQ a M ⟨4,0,aK k⟩
 |less (n:Nat) (h:n<3000):fQ a M ⟨5,n,⟨#[]⟩⟩
 |cut (n:Nat) (h:n<12000):fQ a M ⟨6,n,⟨#[]⟩⟩
 |mn:fQ a M ⟨7,0,⟨#[]⟩⟩
 |mx:fQ a M ⟨8,0,⟨#[]⟩⟩
 |more (n:Nat) (h:n<7):fQ a M ⟨10,n,⟨#[]⟩⟩
 |abv:fQ a M ⟨11,0,⟨#[]⟩⟩
 |jmp (o:Int) (ho:o=9∨o=12∨o=13) (n:Nat) (h1:a+1≤n) (h2:n≤M):fQ a M ⟨o,n,⟨#[]⟩⟩
theorem fQ.mono {a M M':Nat} {x:Ins} (h:fQ a M x) (hm:M≤M'):fQ a M' x:=by
 cases h with
 |push n h=>exact .push n h
 |low=>exact .low
 |sec=>exact .sec
 |frm k h=>exact .frm k h
 |less n h=>exact .less n h
 |cut n h=>exact .cut n h
 |mn=>exact .mn
 |mx=>exact .mx
 |more n h=>exact .more n h
 |abv=>exact .abv
 |jmp o ho n h1 h2=>exact .jmp o ho n h1 (by omega)
def dE (p M:Nat) (l:List Ins):Prop:=∀i x,l[i]?=some x→fQ (p+i) M x
theorem dE.app {p M:Nat} {l m:List Ins} (h:dE p M l) (k:dE (p+l.length) M m):dE p M (l++m):=by
 intro i x hx
 by_cases hi:i<l.length
 ·rw[List.getElem?_append_left hi] at hx
  exact h i x hx
 ·rw[List.getElem?_append_right (by omega)] at hx
  have:=k _ x hx
  rwa [show p+l.length+(i-l.length)=p+i by omega] at this
theorem dE.one {p M:Nat} {x:Ins} (h:fQ p M x):dE p M [x]:=by
 intro i y hy
 rcases i with _|i
 ·simp at hy;subst hy;exact h
 ·simp at hy
theorem dE.cons {p M:Nat} {x:Ins} {l:List Ins} (h:fQ p M x) (k:dE (p+1) M l):dE p M (x::l):=dE.app (dE.one h) k
theorem dE.mono {p M M':Nat} {l:List Ins} (h:dE p M l) (hm:M≤M'):dE p M' l:=fun i x hx=>(h i x hx).mono hm
theorem aM5 {d:Nat} {c:Bool} {k n:Int} {s:ByteArray} {xs:List Ex} (h:Gen d c (.node k n s xs)) (h9:k≠9) (h10:k≠10) (a M:Nat):fQ a M ⟨opF k,n,s⟩:=by
 cases h with
 |low=>exact .low
 |sec=>exact .sec
 |frm d k h=>exact .frm k h
 |fix d n h=>exact .push n h
 |less d n h=>exact .less n h
 |cut d n h=>exact .cut n h
 |two d k h=>
  rcases h with rfl|rfl|rfl
  ·exact .mn
  ·exact .mx
  ·exact absurd rfl h9
 |iff=>exact absurd rfl h10
 |more d n h=>exact .more n h
 |abv=>exact .abv
theorem aOs:∀(d:Nat) (c:Bool) (x:Ex),Gen d c x→∀p,dE p (p+(cgX x p).length) (cgX x p):=by
 intro d
 induction d with
 |zero=>intro c x h;cases h
 |succ d ih=>
  intro cnd x h p
  obtain⟨k,n,s,xs⟩:=x
  have hn:=iU h
  obtain⟨q,hq,hq3,_⟩:=kM k
  have hl:xs.length=q:=by have:=hn.args;omega
  have hN:∀i,i<xs.length→∀p,dE p (p+(cgL xs i p).length) (cgL xs i p):=fun i hi p=>by
   have hx:xs[i]?=some xs[i]:=gE hi
   rw[jX xs i _ hx]
   exact ih _ _ (hn.sub i _ hx) p
  by_cases h9:k=9
  ·subst h9
   have h2:cH 9=2:=rfl
   rw[aJx]
   have a0:=hN 0 (by omega) p
   have a1:=hN 1 (by omega) (p+(cgL xs 0 p).length+1)
   refine(a0.mono ?_).app (dE.cons (.jmp 9 (.inl rfl) _ ?_ ?_) (a1.mono ?_)) <;> (try simp only[lA,List.length_cons]) <;> omega
  by_cases h10:k=10
  ·subst h10
   have h2:cH 10=3:=rfl
   rw[aA8]
   have a0:=hN 0 (by omega) p
   have a1:=hN 1 (by omega) (p+(cgL xs 0 p).length+1)
   have a2:=hN 2 (by omega) (p+(cgL xs 0 p).length+1+(cgL xs 1 (p+(cgL xs 0 p).length+1)).length+1)
   refine(a0.mono ?_).app (dE.cons (.jmp 12 (.inr (.inl rfl)) _ ?_ ?_) ((a1.mono ?_).app (dE.cons (.jmp 13 (.inr (.inr rfl)) _ ?_ ?_) (a2.mono ?_)))) <;> (try simp only[lA,List.length_cons]) <;> omega
  rw[aJw k n s xs p h9 h10]
  have hr:∀m,m≤xs.length→dE p (p+(cgR (cgL xs) p m).length) (cgR (cgL xs) p m):=fun m=>by
   induction m with
   |zero=>intro _ i x hx;simp[cgR] at hx
   |succ m im=>
    intro hm
    have h1:=im (by omega)
    have h2:=hN m (by omega) (p+(cgR (cgL xs) p m).length)
    rw[cgR]
    refine(h1.mono ?_).app (h2.mono ?_) <;> (try simp only[lA]) <;> omega
  refine((hr xs.length nR).mono ?_).app (dE.one (aM5 h h9 h10 _ _))
  simp only[lA]
  omega
def loF (o at_:Int):Int:=if o=9∨o=12∨o=13 then at_+1 else 0
def hiF (o many:Int):Int:=if o=9∨o=12∨o=13 then many else if o=1∨o=5 then 1000000000000 else if o=6 then 100000 else if o=10 then 1000 else 0
theorem pX {a M:Nat} {x:Ins} (h:fQ a M x):1≤x.o∧x.o≤13∧loF x.o a≤x.n∧x.n≤hiF x.o M∧((x.o=4∧aZ x.s=true)∨(x.o≠4∧x.s=⟨#[]⟩)):=by
 cases h with
 |push n h=>exact⟨(by dsimp only;omega),(by dsimp only;omega),(by simp[loF]),(by simp[hiF];omega),.inr ⟨(by dsimp only;omega),rfl⟩⟩
 |low=>exact⟨(by dsimp only;omega),(by dsimp only;omega),(by simp[loF]),(by simp[hiF]),.inr ⟨(by dsimp only;omega),rfl⟩⟩
 |sec=>exact⟨(by dsimp only;omega),(by dsimp only;omega),(by simp[loF]),(by simp[hiF]),.inr ⟨(by dsimp only;omega),rfl⟩⟩
 |frm k h=>exact⟨(by dsimp only;omega),(by dsimp only;omega),(by simp[loF]),(by simp[hiF]),.inl ⟨rfl,fF k h⟩⟩
 |less n h=>exact⟨(by dsimp only;omega),(by dsimp only;omega),(by simp[loF]),(by simp[hiF];omega),.inr ⟨(by dsimp only;omega),rfl⟩⟩
 |cut n h=>exact⟨(by dsimp only;omega),(by dsimp only;omega),(by simp[loF]),(by simp[hiF];omega),.inr ⟨(by dsimp only;omega),rfl⟩⟩
 |mn=>exact⟨(by dsimp only;omega),(by dsimp only;omega),(by simp[loF]),(by simp[hiF]),.inr ⟨(by dsimp only;omega),rfl⟩⟩
 |mx=>exact⟨(by dsimp only;omega),(by dsimp only;omega),(by simp[loF]),(by simp[hiF]),.inr ⟨(by dsimp only;omega),rfl⟩⟩
 |more n h=>exact⟨(by dsimp only;omega),(by dsimp only;omega),(by simp[loF]),(by simp[hiF];omega),.inr ⟨(by dsimp only;omega),rfl⟩⟩
 |abv=>exact⟨(by dsimp only;omega),(by dsimp only;omega),(by simp[loF]),(by simp[hiF]),.inr ⟨(by dsimp only;omega),rfl⟩⟩
 |jmp o ho n h1 h2=>rcases ho with rfl|rfl|rfl <;> exact⟨(by dsimp only;omega),(by dsimp only;omega),(by simp[loF];omega),(by simp[hiF];omega),.inr ⟨(by dsimp only;omega),rfl⟩⟩
theorem aI4 (o n:Int) (s:ByteArray) (a M:Nat) (ha:a<1000000) (w:World):Calls prog 169 #[.agg #[.int .i64 o,.int .i64 n,.string s],.int .i64 (a:Int),.int .i64 (M:Int)] w (Ret (.tuple #[.int .i64 (loF o a),.int .i64 (hiF o M)]) w):=by
 have zw:wrap64 ((a:Int)+1)=(a:Int)+1:=Mem.w64 (by omega) (by omega)
 by_cases h:o=9∨o=12∨o=13
 ·rcases h with rfl|rfl|rfl
  all_goals
   go_enter func169,ntmps169
   go_wp2
   go_ret2
   exact⟨by simp[loF,hiF],blw⟩
 by_cases h1:o=1∨o=5
 ·rcases h1 with rfl|rfl
  all_goals
   go_enter func169,ntmps169
   go_wp2
   go_ret2
   exact⟨by simp[loF,hiF],blw⟩
 by_cases h6:o=6
 ·subst h6
  go_enter func169,ntmps169
  go_wp2
  go_ret2
  exact⟨by simp[loF,hiF],blw⟩
 by_cases h10:o=10
 ·subst h10
  go_enter func169,ntmps169
  go_wp2
  go_ret2
  exact⟨by simp[loF,hiF],blw⟩
 ·have e:Hid (loF o a=0∧hiF o M=0):=Hd ⟨by simp[loF,h],by simp[hiF,h,h1,h6,h10]⟩
  have z9:(o==9)=false:=bN (fun e=>h (.inl e))
  have z12:(o==12)=false:=bN (fun e=>h (.inr (.inl e)))
  have z13:(o==13)=false:=bN (fun e=>h (.inr (.inr e)))
  have y1:(o==1)=false:=bN (fun e=>h1 (.inl e))
  have y5:(o==5)=false:=bN (fun e=>h1 (.inr e))
  have y6:(o==6)=false:=bN h6
  have y10:(o==10)=false:=bN h10
  clear h h1 h6 h10
  go_enter func169,ntmps169
  go_wp2
  go_ret2
  exact⟨by rw[e.out.1,e.out.2];rfl,blw⟩
theorem qS {w:World} {A:Option Addr} {c:Nat} {xs:List Ins} (h:dI.At w A c xs) (k:Nat) (x:Ins) (hx:xs[k]?=some x):
 ∃b off,A=some ⟨b,off,none⟩∧b<w.heap.size∧w.cell? ⟨b,off+k * 3,none⟩=some (.int .i64 x.o)∧w.cell? ⟨b,off+k * 3+1,none⟩=some (.int .i64 x.n)∧w.cell? ⟨b,off+k * 3+2,none⟩=some (.string x.s):=by
 obtain⟨b,off,hA,hlt,hc⟩:=h.get k x hx
 exact⟨b,off,hA,hlt,hc 0 (by decide),hc 1 (by decide),hc 2 (by decide)⟩
theorem zA (l:List Ins) (hl:l.length≤5000) (hok:dE 0 l.length l) (A:Option Addr) (c n:Nat) (hn:l.length=n) (w:World) (h:dI.At w A c l):Calls prog 99 #[.slice A n c] w (Ret (.bool true) w):=by
 have HL:=Hd hok
 have H:=Hd h
 have HN:=Hd hn
 have HC:Hid (n≤5000∧n≤c∧c≤9223372036854775807):=Hd ⟨by omega,by have:=h.le;omega,h.max⟩
 clear hl hok h hn
 go_enter func99,ntmps99
 go_wp2_with fail
 go_loopw [10] (fun iv wr=>∃i:Nat,i≤n∧iv=.int .i64 i∧Hid (Below w.heap.size w wr)) (fun iv _=>n-(intOf iv).toNat)
 case atStart=>exact⟨0,Nat.zero_le _,rfl,Hd bR⟩
 case round=>
  obtain⟨i,hin,rfl,HB⟩:=hrel
  by_cases hlt:i<n
  ·have hx:l[i]?=some (l[i]'(by have:=HN.out;omega)):=gE _
   obtain⟨b,off,rfl,hbl,c0,c1,c2⟩:=qS (H.out.below HB.out) i _ hx
   have hok:=HL.out i _ hx
   generalize l[i]'(by have:=HN.out;omega)=x at c0 c1 c2 hx hok
   rw[HN.out,Nat.zero_add] at hok
   obtain⟨f1,f2,f3,f4,f5⟩:=pX hok
   obtain⟨xo,xn,xs⟩:=x
   dsimp only at c0 c1 c2 f1 f2 f3 f4 f5
   have HEN:Hid (∀W,Calls prog 169 #[.agg #[.int .i64 xo,.int .i64 xn,.string xs],.int .i64 (i:Int),.int .i64 (n:Int)] W (Ret (.tuple #[.int .i64 (loF xo i),.int .i64 (hiF xo n)]) W)):=Hd (fun W=>aI4 xo xn xs i n (by have:=HC.out;omega) W)
   have HZI:Hid (wrap64 ((i:Int)+1)=((i+1:Nat):Int)):=Hd (by rw[Mem.w64 (by omega) (by have:=HC.out;omega)];omega)
   generalize loF xo i=lo at HEN f3
   generalize hiF xo n=hi at HEN f4
   have zlt:(i:Int)<(n:Int):=by omega
   have z1:¬xo<1:=by omega
   have z2:¬(13:Int)<xo:=by omega
   have z3:¬xn<lo:=by omega
   have z4:¬hi<xn:=by omega
   have HLT:=Hd hlt
   clear hx hok hlt f1 f2 f3 f4
   rcases f5 with⟨rfl,f5⟩|⟨f5,rfl⟩
   ·have HNA:Hid (∀W,Calls prog 60 #[.string xs] W (Ret (.bool true) W)):=Hd (fun W=>by
     have:=eB xs W (by unfold aZ at f5;simp at f5;omega)
     rwa [f5] at this)
    clear f5
    go_wp2_with (first
     |(go_at_call 169;go_must (refine rC w (HEN.out _) ?_;intro wq1 hb Bq1;obtain⟨⟨kc1_0_0,kc1_0_1,kc1_0_2⟩,kl1_0,kf1_0⟩:=kb3 hb (wr.heap.size) (.int .i64 4) (.int .i64 xn) (.string xs);clear hb))
     |(go_at_call 60;go_must (refine rC w (HNA.out _) ?_;intro wq2 hb Bq2;obtain⟨⟨kc2_0_0,kc2_0_1,kc2_0_2⟩,kl2_0,kf2_0⟩:=kb3 hb (wr.heap.size) (.int .i64 4) (.int .i64 xn) (.string xs);clear hb)))
    go_roundw
    case rel=>exact⟨i+1,HLT.out,(by first|rw[HZI.out]|rfl|simp),Hd blw⟩
    case measure=>have:=HLT.out;(try rw[HZI.out]);simp[intOf];omega
   ·have HNA:Hid (∀W,Calls prog 60 #[.string ⟨#[]⟩] W (Ret (.bool false) W)):=Hd (fun W=>eB ⟨#[]⟩ W (by decide))
    have zo:(xo==4)=false:=bN f5
    clear f5
    go_wp2_with (first
     |(go_at_call 169;go_must (refine rC w (HEN.out _) ?_;intro wq3 hb Bq3;obtain⟨⟨kc3_0_0,kc3_0_1,kc3_0_2⟩,kl3_0,kf3_0⟩:=kb3 hb (wr.heap.size) (.int .i64 xo) (.int .i64 xn) (.string ⟨#[]⟩);clear hb))
     |(go_at_call 60;go_must (refine rC w (HNA.out _) ?_;intro wq4 hb Bq4;obtain⟨⟨kc4_0_0,kc4_0_1,kc4_0_2⟩,kl4_0,kf4_0⟩:=kb3 hb (wr.heap.size) (.int .i64 xo) (.int .i64 xn) (.string ⟨#[]⟩);clear hb)))
    go_roundw
    case rel=>exact⟨i+1,HLT.out,(by first|rw[HZI.out]|rfl|simp),Hd blw⟩
    case measure=>have:=HLT.out;(try rw[HZI.out]);simp[intOf];omega
  ·obtain rfl:i=n:=by omega
   have z8:(i:Int)≤5000:=by have:=HC.out;omega
   clear hlt
   go_wp2_with fail
   go_ret
   exact⟨rfl,HB.out⟩
end Go.Proofs.YtlibhkkckgkkkaaGreatDoor.Tf
