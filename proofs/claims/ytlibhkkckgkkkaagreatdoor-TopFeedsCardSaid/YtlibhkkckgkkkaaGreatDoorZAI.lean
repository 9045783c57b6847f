/- Part of the proof of TopFeeds: OutA OutB. -/
import Derived.Test.YtlibhkkckgkkkaaGreatDoorZAE
import Derived.BigQuiet
import Derived.Deep.DeepCutAuto
import Derived.Deep.RegionHeld3
import Derived.Deep.RegionLaw
import Derived.Lib.Hide
import Derived.WalkLawsBesides
import Derived.WalkSpells
namespace Go.Proofs.YtlibhkkckgkkkaaGreatDoor.Out
open Go.RowKit Go.Proofs.YtlibhkkckgkkkaaGreatDoor.Mem Go.Proofs.Tryz
structure bH where
 v:Int
 p:Int
 t:Int
 n:Int
 s:Int
deriving instance DecidableEq for bH
structure dV where
 s:Int
 v:Int
 p:Int
deriving instance DecidableEq for dV
def dO:En bH:=⟨fun m=>[.int .i64 m.v,.int .i64 m.p,.int .i64 m.t,.int .i64 m.n,.int .i64 m.s],5,by omega,fun _=>rfl,fun x u hu=>by simp at hu;rcases hu with rfl|rfl|rfl|rfl|rfl <;> rfl⟩
def bH.val (m:bH):Value:=.agg #[.int .i64 m.v,.int .i64 m.p,.int .i64 m.t,.int .i64 m.n,.int .i64 m.s]
def eV {α:Type} (d:En α) (e:TypeId) (w:World) (xs:List α) (r:Ending) (w':World):Prop:=∃A c,r=.returned (.slice A xs.length c)∧d.Own e w' w.heap.size A c xs∧Below w.heap.size w w'
theorem aPz:(prog.info? 145).map (fun i=>(i.zero,i.size,i.bytes))=some (some (.agg #[.int .i64 0,.int .i64 0,.int .i64 0,.int .i64 0,.int .i64 0]),5,40):=by kernel_rfl
theorem aA1 (w:World):Calls prog 226 #[.slice none 0 0] w (eV dO 145 w []):=by
 have heq:=fun W a n c=>Lib.run_eql_slice_nil (P:=prog) W 69 145 a n c 0 0 underlying69
 go_enter func226,ntmps226
 go_wp2
 go_ret
 exact⟨none,0,rfl,En.Own.none_ _ _ _,bR⟩
theorem xQ (a:Addr) (c:Nat) (xs:List bH) (w:World) (h:dO.At w (some a) c xs) (hb:xs.length * 40≤140737488355328):Calls prog 226 #[.slice (some a) xs.length c] w (eV dO 145 w xs):=by
 obtain⟨i0,hi,hz0,hz1,hz2⟩:=info_parts aPz
 have heq:=fun W a n c=>Lib.run_eql_slice_nil (P:=prog) W 69 145 a n c 0 0 underlying69
 have H:=Hd h
 clear h
 have hbel:Hid (Below w.heap.size w (w.alloc (.cells #[] 145))):=bR.alloc nR _
 go_enter func226,ntmps226
 go_wp2_with (at_builtin;refine aV dO _ rfl _ _ 69 rfl w.heap.size 145 i0 _ 40 underlying69 hi hz0 hz1 hz2 rfl (some ⟨w.heap.size,0,none⟩) 0 0 [] rfl rfl ?own (some a) c xs.length xs rfl rfl ?at_ ?m1 ?m2 ?m3 ?_)
 case own=>exact En.Own.lit dO w w.heap.size 145 #[] [] nR (Nat.zero_le _) rfl
 case at_=>exact H.out.below hbel.out
 case m1=>simp only[List.length_nil];omega
 case m2=>simp only[List.length_nil];omega
 case m3=>simp
 intro A' c' w' hown hg hat
 have HO:=Hd hown
 have HG:=Hd hg
 clear hown hg hat
 go_wp2
 go_ret
 exact⟨A',c',rfl,HO.out,hbel.out.grown HG.out (by simp) (fun k hk=>by simp[Value.ownBlock] at hk;omega)⟩
theorem sP (A:Option Addr) (c:Nat) (xs:List bH) (w:World) (h:dO.At w A c xs) (hb:xs.length * 40≤140737488355328):Calls prog 226 #[.slice A xs.length c] w (eV dO 145 w xs):=by
 cases A with
 |none=>
  have hc:=h.nil rfl
  subst hc
  have hx:=List.eq_nil_of_length_eq_zero (Nat.le_zero.1 h.le)
  subst hx
  exact aA1 w
 |some a=>exact xQ a c xs w h hb
def gF (x a b:Int):Int:=if(if b<x then b else x)<a then a else(if b<x then b else x)
def cD (x:Int):Int:=if x<0 then 0 else if 1099511627776<x then 1099511627776 else x
theorem jG (x:Int):0≤cD x∧cD x≤1099511627776:=by unfold cD;split <;> (try split) <;> omega
def iZ (t b:Int):Int:=if 1099511627776<cD t+cD b then 1099511627776 else cD t+cD b
theorem qR {w:World} {A:Option Addr} {c:Nat} {xs:List bH} (h:dO.At w A c xs) (k:Nat) (x:bH) (hx:xs[k]?=some x):
 ∃b off,A=some ⟨b,off,none⟩∧b<w.heap.size∧w.cell? ⟨b,off+k * 5,none⟩=some (.int .i64 x.v)∧w.cell? ⟨b,off+k * 5+1,none⟩=some (.int .i64 x.p)∧w.cell? ⟨b,off+k * 5+2,none⟩=some (.int .i64 x.t)∧w.cell? ⟨b,off+k * 5+3,none⟩=some (.int .i64 x.n)∧w.cell? ⟨b,off+k * 5+4,none⟩=some (.int .i64 x.s):=by
 obtain⟨b,off,hA,hlt,hc⟩:=h.get k x hx
 exact⟨b,off,hA,hlt,hc 0 (by decide),hc 1 (by decide),hc 2 (by decide),hc 3 (by decide),hc 4 (by decide)⟩
theorem rS {w:World} {base:Nat} {A:Option Addr} {c:Nat} {xs:List bH} (h:dO.Own 145 w base A c xs) (k:Nat) (x:bH) (hx:xs[k]?=some x):
 ∃g,A=some ⟨g,0,none⟩∧base≤g∧g<w.heap.size∧w.cell? ⟨g,k * 5,none⟩=some (.int .i64 x.v)∧w.cell? ⟨g,k * 5+1,none⟩=some (.int .i64 x.p)∧w.cell? ⟨g,k * 5+2,none⟩=some (.int .i64 x.t)∧w.cell? ⟨g,k * 5+3,none⟩=some (.int .i64 x.n)∧w.cell? ⟨g,k * 5+4,none⟩=some (.int .i64 x.s):=by
 obtain⟨g,off,rfl,hlt,h0,h1,h2,h3,h4⟩:=qR h.at_ k x hx
 obtain⟨rfl,hge,_⟩:=lB h
 rw[Nat.zero_add] at h0 h1 h2 h3 h4
 exact⟨g,rfl,hge,hlt,h0,h1,h2,h3,h4⟩
theorem aFs (x:Int) (w:World):Calls prog 37 #[.int .i64 x,.int .i64 0,.int .i64 1099511627776] w fun e w'=>e=.returned (.int .i64 (cD x))∧w=w':=by
 by_cases h:x<0
 ·rw[show cD x=0 from if_pos h]
  go_enter func37,ntmps37
  go_wp2
  go_ret
  exact⟨rfl,rfl⟩
 ·by_cases h':1099511627776<x
  ·rw[show cD x=1099511627776 by unfold cD;rw[if_neg h,if_pos h']]
   go_enter func37,ntmps37
   go_wp2
   go_ret
   exact⟨rfl,rfl⟩
  ·rw[show cD x=x by unfold cD;rw[if_neg h,if_neg h']]
   by_cases h0:x=0
   ·subst h0
    go_enter func37,ntmps37
    go_wp2
    go_ret
    exact⟨rfl,rfl⟩
   ·have h1:0<x:=by omega
    go_enter func37,ntmps37
    go_wp2
    go_ret
    exact⟨rfl,rfl⟩
theorem iR (x:Int) (w:World):Calls prog 147 #[.int .i64 x] w fun e w'=>e=.returned (.int .i64 (cD x))∧w=w':=by
 go_enter func147,ntmps147
 go_wp2_with (go_at_call 37;refine(aFs _ _).mono ?_;rintro e w' ⟨rfl,rfl⟩)
 go_ret
 exact⟨rfl,rfl⟩
theorem iL (a b:Int) (w:World):Calls prog 68 #[.int .i64 a,.int .i64 b] w fun e w'=>e=.returned (.int .i64 (iZ a b))∧w=w':=by
 have ha:=jG a
 have hb:=jG b
 go_enter func68,ntmps68
 go_wp2_with (first|(go_at_call 37;refine(aFs _ _).mono ?_;rintro e w' ⟨rfl,rfl⟩))
 all_goals go_ret
 all_goals refine⟨kD ?_,rfl⟩
 all_goals show _=iZ a b
 all_goals unfold iZ
 ·rw[if_pos (by assumption)]
 ·rw[if_neg (by omega)]
def yG (w:World) (xs:List bH) (b:Bool) (r:Ending) (w':World):Prop:=∃A c,r=.returned (.tuple #[.slice A xs.length c,.bool b])∧dO.Own 145 w' w.heap.size A c xs∧Below w.heap.size w w'
def Ent (f:Nat):Prop:=∀args W,(callFunc f args).run prog W=.ok (.enter f args) W
theorem aKw (A:Option Addr) (c k:Nat) (xs:List bH) (x:bH) (f2 f3:Nat) (K2 K3:Array Value) (w:World) (e2:Ent f2) (h:dO.At w A c xs) (hb:xs.length * 40≤140737488355328) (hx:xs[k]?=some x)
 (hm:∀W,Below w.heap.size w W→Calls prog f2 (#[x.val]++K2) W fun e w'=>e=.returned (.bool false)∧Below W.heap.size W w'):
 Calls prog 144 #[.slice A xs.length c,.int .i64 k,.func (.func f2) #[] K2,.func (.func f3) #[] K3] w (yG w xs false):=by
 have hk:=(List.getElem?_eq_some_iff.1 hx).1
 obtain⟨b,off,rfl,hbl,c0,c1,c2,c3,c4⟩:=qR h k x hx
 have H:=Hd h
 have HX:=Hd hx
 have HM:=Hd hm
 clear h hx hm
 have he2:∀args W,(callFunc f2 args).run prog W=.ok (.enter f2 args) W:=e2
 clear e2
 have g1:decide ((k:Int)<0)=false:=decide_eq_false (by omega)
 have g2:decide (xs.length≤k)=false:=decide_eq_false (by omega)
 go_enter func144,ntmps144
 go_wp2_with (go_at_call 226;refine(sP _ _ _ _ H.out hb).mono ?_;rintro e w1 ⟨A1,c1',rfl,hown,hbel⟩;obtain⟨hc1,hf1,hz1⟩:=rT hbel;have HO:=Hd hown;have HB:=Hd hbel;clear hown hbel)
 refine(HM.out _ HB.out).mono ?_
 rintro e w2 ⟨rfl,hbel⟩
 have HB2:=Hd hbel
 clear hbel
 go_wp2_with fail
 go_ret2
 exact⟨A1,c1',rfl,HO.out.below HB2.out,aD HB.out HB2.out⟩
theorem aQu (xs:List bH) (k:Nat) (hk:k<xs.length) (x:bH):(((((dO.cs xs).set (k * 5) (.int .i64 x.v)).set (k * 5+1) (.int .i64 x.p)).set (k * 5+2) (.int .i64 x.t)).set (k * 5+3) (.int .i64 x.n)).set (k * 5+4) (.int .i64 x.s)=dO.cs (xs.set k x):=by
 refine dO.cs_ext _ _ (by simp only[List.length_set,dO.cs_length]) fun q y hy j hj=>?_
 have hj2:j<5:=hj
 have hl:(dO.cs xs).length=xs.length * 5:=dO.cs_length xs
 have hsz:dO.sz=5:=rfl
 rw[hsz]
 simp only[List.getElem?_set,List.length_set,hl]
 by_cases hq:k=q
 ·subst hq
  have e:y=x:=by
   rw[List.getElem?_set_self hk] at hy
   exact(Option.some.inj hy).symm
  subst e
  match j,hj2 with
  |0,_=>rw[if_neg (by omega),if_neg (by omega),if_neg (by omega),if_neg (by omega),if_pos (by omega),if_pos (by omega)];rfl
  |1,_=>rw[if_neg (by omega),if_neg (by omega),if_neg (by omega),if_pos rfl,if_pos (by omega)];rfl
  |2,_=>rw[if_neg (by omega),if_neg (by omega),if_pos rfl,if_pos (by omega)];rfl
  |3,_=>rw[if_neg (by omega),if_pos rfl,if_pos (by omega)];rfl
  |4,_=>rw[if_pos rfl,if_pos (by omega)];rfl
 ·rw[List.getElem?_set_ne hq] at hy
  rw[if_neg (by omega),if_neg (by omega),if_neg (by omega),if_neg (by omega),if_neg (by omega)]
  exact dO.cs_get xs q y hy j hj
def setO (w:World) (g k:Nat) (x:bH):World:=((((w.setCell ⟨g,k * 5,none⟩ (.int .i64 x.v)).setCell ⟨g,k * 5+1,none⟩ (.int .i64 x.p)).setCell ⟨g,k * 5+2,none⟩ (.int .i64 x.t)).setCell ⟨g,k * 5+3,none⟩ (.int .i64 x.n)).setCell ⟨g,k * 5+4,none⟩ (.int .i64 x.s)
theorem aHc {w:World} {base g c:Nat} {xs:List bH} (h:dO.Own 145 w base (some ⟨g,0,none⟩) c xs) (k:Nat) (hk:k<xs.length) (x:bH):
 dO.Own 145 (setO w g k x) base (some ⟨g,0,none⟩) c (xs.set k x):=by
 have h1:=(World.ownsRow.stored h (k * 5) (.int .i64 x.v)).1
 have h2:=(World.ownsRow.stored h1 (k * 5+1) (.int .i64 x.p)).1
 have h3:=(World.ownsRow.stored h2 (k * 5+2) (.int .i64 x.t)).1
 have h4:=(World.ownsRow.stored h3 (k * 5+3) (.int .i64 x.n)).1
 have h5:=(World.ownsRow.stored h4 (k * 5+4) (.int .i64 x.s)).1
 unfold En.Own
 rw[List.length_set,←aQu xs k hk x]
 exact h5
theorem aBc {B:Nat} {a w:World} (h:Below B a w) {g:Nat} (hp:B≤g) (k:Nat) (x:bH):Below B a (setO w g k x):=
 aH (aH (aH (aH (aH h hp _) hp _) hp _) hp _) hp _
theorem aFm (A:Option Addr) (c k:Nat) (xs:List bH) (x y:bH) (f2 f3:Nat) (K2 K3:Array Value) (w:World) (e2:Ent f2) (e3:Ent f3) (h:dO.At w A c xs) (hb:xs.length * 40≤140737488355328) (hx:xs[k]?=some x)
 (hm:∀W,Below w.heap.size w W→Calls prog f2 (#[x.val]++K2) W fun e w'=>e=.returned (.bool true)∧Below W.heap.size W w')
 (hch:∀W,Below w.heap.size w W→Calls prog f3 (#[x.val]++K3) W fun e w'=>e=.returned y.val∧Below W.heap.size W w'):
 Calls prog 144 #[.slice A xs.length c,.int .i64 k,.func (.func f2) #[] K2,.func (.func f3) #[] K3] w (yG w (xs.set k y) true):=by
 have hk:=(List.getElem?_eq_some_iff.1 hx).1
 obtain⟨b,off,rfl,hbl,c0,c1,c2,c3,c4⟩:=qR h k x hx
 have H:=Hd h
 have HX:=Hd hx
 have HM:=Hd hm
 have HCH:=Hd hch
 clear h hx hm hch
 have he2:∀args W,(callFunc f2 args).run prog W=.ok (.enter f2 args) W:=e2
 have he3:∀args W,(callFunc f3 args).run prog W=.ok (.enter f3 args) W:=e3
 clear e2 e3
 have g1:decide ((k:Int)<0)=false:=decide_eq_false (by omega)
 have g2:decide (xs.length≤k)=false:=decide_eq_false (by omega)
 go_enter func144,ntmps144
 go_wp2_with (go_at_call 226;refine(sP _ _ _ _ H.out hb).mono ?_;rintro e w1 ⟨A1,c1',rfl,hown,hbel⟩;obtain⟨hc1,hf1,hz1⟩:=rT hbel;have HO:=Hd hown;have HB:=Hd hbel;clear hown hbel)
 refine(HM.out _ HB.out).mono ?_
 rintro e w2 ⟨rfl,hbel⟩
 have d0:=aC hbel ((hc1 b (off+k * 5) hbl).trans c0)
 have d1:=aC hbel ((hc1 b (off+k * 5+1) hbl).trans c1)
 have d2:=aC hbel ((hc1 b (off+k * 5+2) hbl).trans c2)
 have d3:=aC hbel ((hc1 b (off+k * 5+3) hbl).trans c3)
 have d4:=aC hbel ((hc1 b (off+k * 5+4) hbl).trans c4)
 have HB2:=Hd hbel
 clear hbel c0 c1 c2 c3 c4
 go_wp2_with fail
 refine(HCH.out _ (aD HB.out HB2.out)).mono ?_
 rintro e w3 ⟨he,hbel⟩
 have he':e=.returned (.agg #[.int .i64 y.v,.int .i64 y.p,.int .i64 y.t,.int .i64 y.n,.int .i64 y.s]):=he
 clear he
 subst he'
 have O3:=Hd ((HO.out.below HB2.out).below hbel)
 have B3:=Hd (aD (aD HB.out HB2.out) hbel)
 clear hbel d0 d1 d2 d3 d4
 obtain⟨g,rfl,hge,hlt,r0,r1,r2,r3,r4⟩:=rS O3.out k x HX.out
 have f0:=O3.out.free (k * 5)
 have f1:=O3.out.free (k * 5+1)
 have f2:=O3.out.free (k * 5+2)
 have f3:=O3.out.free (k * 5+3)
 have f4:=O3.out.free (k * 5+4)
 go_wp2_with fail
 go_ret2
 exact⟨some ⟨g,0,none⟩,c1',by simp,aHc O3.out k hk y,aBc B3.out hge k y⟩
def pN (x:bH) (now:Int):Bool:=decide (x.s=1∧x.n≤cD now)
def aQ5 (t:Int):Int:=if t=0 then 2 else if t=1 then 4 else if t=2 then 8 else if t=3 then 16 else 32
def jV (x:bH) (p now:Int):bH:=⟨x.v+1,p,0,cD now,1⟩
def mT (x:bH) (now:Int):bH:=if 5≤x.t then⟨x.v,x.p,x.t,x.n,3⟩ else⟨x.v,x.p,x.t+1,iZ (cD now) (aQ5 x.t),x.s⟩
def rG (x:bH) (s:Int):bH:=⟨x.v,x.p,x.t,x.n,s⟩
def Ret (v:Value) (w:World) (e:Ending) (w':World):Prop:=e=.returned v∧Below w.heap.size w w'
theorem aNl (x:bH) (now:Int) (w:World) (hs:x.s=1) (hn:x.n≤cD now):Calls prog 148 #[x.val,.int .i64 now] w (Ret (.bool true) w):=by
 obtain⟨v,p,t,n,s⟩:=x
 obtain rfl:s=1:=hs
 have hn':n≤cD now:=hn
 clear hn
 have ht:=jG now
 have HT:=Hd (fun W=>iR now W)
 generalize cD now=u at HT hn' ht
 show Calls prog 148 #[.agg #[.int .i64 v,.int .i64 p,.int .i64 t,.int .i64 n,.int .i64 1],.int .i64 now] w _
 go_enter func148,ntmps148
 go_wp2_with fail
 go_quiet ((go_at_call 147;exact Calls.quiet_of_same ((HT.out _).mono fun _ _ ⟨h,k⟩=>⟨h,k.symm⟩)))
 go_wp2
 go_ret
 exact⟨rfl,aL (aB bR _) _⟩
theorem aI6 (x:bH) (now:Int) (w:World) (hs:x.s=1) (hn:¬x.n≤cD now):Calls prog 148 #[x.val,.int .i64 now] w (Ret (.bool false) w):=by
 obtain⟨v,p,t,n,s⟩:=x
 obtain rfl:s=1:=hs
 have hn':¬n≤cD now:=hn
 clear hn
 have ht:=jG now
 have HT:=Hd (fun W=>iR now W)
 generalize cD now=u at HT hn' ht
 have g1:=decide_eq_false hn'
 show Calls prog 148 #[.agg #[.int .i64 v,.int .i64 p,.int .i64 t,.int .i64 n,.int .i64 1],.int .i64 now] w _
 go_enter func148,ntmps148
 go_wp2_with fail
 go_quiet ((go_at_call 147;exact Calls.quiet_of_same ((HT.out _).mono fun _ _ ⟨h,k⟩=>⟨h,k.symm⟩)))
 go_wp2
 go_ret
 exact⟨rfl,aL (aB bR _) _⟩
theorem aNm (x:bH) (now:Int) (w:World) (hs:¬x.s=1):Calls prog 148 #[x.val,.int .i64 now] w (Ret (.bool false) w):=by
 obtain⟨v,p,t,n,s⟩:=x
 have hs':¬s=1:=hs
 have g1:(s==1)=false:=by simpa using hs'
 clear hs hs'
 show Calls prog 148 #[.agg #[.int .i64 v,.int .i64 p,.int .i64 t,.int .i64 n,.int .i64 s],.int .i64 now] w _
 go_enter func148,ntmps148
 go_wp2_with fail
 go_quiet (fail)
 go_wp2
 go_ret
 exact⟨rfl,aL (aB bR _) _⟩
theorem aB7 (x:bH) (now:Int) (w:World):Calls prog 148 #[x.val,.int .i64 now] w (Ret (.bool (pN x now)) w):=by
 unfold pN
 by_cases hs:x.s=1
 ·by_cases hn:x.n≤cD now
  ·rw[decide_eq_true ⟨hs,hn⟩];exact aNl x now w hs hn
  ·rw[decide_eq_false (fun h=>hn h.2)];exact aI6 x now w hs hn
 ·rw[decide_eq_false (fun h=>hs h.1)];exact aNm x now w hs
theorem yM (x:bH) (now:Int) (w:World) (ht:5≤x.t):Calls prog 151 #[x.val,.int .i64 now] w (Ret (mT x now).val w):=by
 obtain⟨v,p,t,n,s⟩:=x
 have ht':5≤t:=ht
 clear ht
 have e:(mT ⟨v,p,t,n,s⟩ now).val=.agg #[.int .i64 v,.int .i64 p,.int .i64 t,.int .i64 n,.int .i64 3]:=by unfold mT;rw[if_pos ht'];rfl
 rw[e]
 clear e
 show Calls prog 151 #[.agg #[.int .i64 v,.int .i64 p,.int .i64 t,.int .i64 n,.int .i64 s],.int .i64 now] w _
 go_enter func151,ntmps151
 go_wp2_with fail
 refine bodyPost_ret (v:=.agg #[.int .i64 v,.int .i64 p,.int .i64 t,.int .i64 n,.int .i64 3]) (by simp[results,results151,go_sem]) rfl ⟨rfl,?_⟩
 exact aB (aB bR _) _
end Go.Proofs.YtlibhkkckgkkkaaGreatDoor.Out
