/- Part of the proof of TopFeeds: BooA BooB BooC Frame BooD BooE BooG BooH BooI. -/
import Derived.Test.YtlibhkkckgkkkaaGreatDoorZAE
import Derived.BigQuiet
import Derived.Deep.DeepCutAuto
import Derived.Deep.RegionHeld3
import Derived.Deep.RegionLaw
import Derived.Lib.Hide
import Derived.Lib.IndexAny
import Derived.StillTailTactics
import Derived.WalkLawsBesides
import Derived.WalkSpells
set_option maxRecDepth 100000
namespace Go.Proofs.YtlibhkkckgkkkaaGreatDoor.Boo
open Go.RowKit Go.Proofs.YtlibhkkckgkkkaaGreatDoor.Mem Go.Proofs.Tryz
theorem cf58 (s:ByteArray) (c:UInt8) (w:World):(callFunc 305 #[.string s,.int .u8 c.toNat]).run prog w=.ok (.value (.int .i64 (Lib.indexByte s.data.toList c))) w:=by
 rw[run_callFunc_extern func305 (by kernel_rfl) (by kernel_rfl) (by kernel_rfl) (e:=Extern.BytealgIndexByte.indexByte) (by kernel_rfl),Lib.run_indexByteString]
 simp[Result.andThen]
theorem ib3 (s:ByteArray) (c:UInt8) (w:World):Calls prog 268 #[.string s,.int .u8 c.toNat] w fun e w'=>e=.returned (.int .i64 (Lib.indexByte s.data.toList c))∧w=w':=by
 have hib:=fun W=>cf58 s c W
 go_enter func268,ntmps268
 go_wp2
 go_ret
 exact⟨rfl,rfl⟩
theorem ib2 (s:ByteArray) (c:UInt8) (w:World):Calls prog 208 #[.string s,.int .u8 c.toNat] w fun e w'=>e=.returned (.int .i64 (Lib.indexByte s.data.toList c))∧w=w':=by
 go_enter func208,ntmps208
 go_wp2_with (go_at_call 268;refine(ib3 _ _ _).mono ?_;rintro e w' ⟨rfl,rfl⟩)
 go_ret
 exact⟨rfl,rfl⟩
def inB (l:List UInt8) (c:UInt8):Bool:=l.contains c
theorem uY (s:ByteArray) (c:UInt8) (w:World):Calls prog 119 #[.int .u8 c.toNat,.string s] w fun e w'=>e=.returned (.bool (inB s.data.toList c))∧w=w':=by
 have hb:inB s.data.toList c=decide (0≤Lib.indexByte s.data.toList c):=Lib.contains_iff_indexByte _ _
 rw[hb]
 clear hb
 have HI:=Hd (fun W=>ib2 s c W)
 generalize Lib.indexByte s.data.toList c=n at HI ⊢
 go_enter func119,ntmps119
 go_wp2_with (go_at_call 208;refine(HI.out _).mono ?_;rintro e w' ⟨rfl,rfl⟩)
 go_ret
 exact⟨rfl,rfl⟩
def fI {α:Type} (p:α→Bool) (xs:List α):Int:=match xs.findIdx? p with
 |some i=>i
 |none=>-1
theorem pM {α:Type} {p:α→Bool} {xs:List α} {k:Nat} {x:α} (hx:xs[k]?=some x) (hp:p x=true) (hb:∀j y,j<k→xs[j]?=some y→p y=false):fI p xs=k:=by
 have hk:=(List.getElem?_eq_some_iff.1 hx).1
 have:xs.findIdx? p=some k:=by
  rw[List.findIdx?_eq_some_iff_getElem]
  refine⟨hk,?_,fun j hj=>?_⟩
  ·rw[(List.getElem?_eq_some_iff.1 hx).2];exact hp
  ·have:=hb j _ hj (gE (by omega))
   rw[this];decide
 unfold fI
 rw[this]
theorem jW {α:Type} {p:α→Bool} {xs:List α} (hb:∀j y,j<xs.length→xs[j]?=some y→p y=false):fI p xs=-1:=by
 have:xs.findIdx? p=none:=by
  rw[List.findIdx?_eq_none_iff]
  intro x hx
  obtain⟨j,hj,rfl⟩:=List.mem_iff_getElem.1 hx
  exact hb j _ hj (gE hj)
 unfold fI
 rw[this]
theorem mJ {α:Type} {p:α→Bool} {xs:List α} {k:Nat} {x:α} (hx:xs[k]?=some x) (hp:p x=false) (hb:∀j y,j<k→xs[j]?=some y→p y=false):∀j y,j<k+1→xs[j]?=some y→p y=false:=fun j y hj hy=>by
 by_cases h:j<k
 ·exact hb j y h hy
 ·obtain rfl:j=k:=by omega
  rw[hx] at hy
  rw[←Option.some.inj hy]
  exact hp
theorem aOi {α:Type} (p:α→Bool) (xs:List α):-1≤fI p xs∧fI p xs<xs.length:=by
 unfold fI
 cases h:xs.findIdx? p with
 |none=>simp;omega
 |some i=>
  have:=(List.findIdx?_eq_some_iff_getElem.1 h).1
  simp;omega
def iT (l:List UInt8) (c:UInt8):Bool:=!inB l c
def jI (s t:ByteArray):Int:=if fI (iT t.data.toList) s.data.toList=-1 then s.size else fI (iT t.data.toList) s.data.toList
theorem lE (s:ByteArray) (k:Nat) (h:k<s.size):s.data.toList[k]?=some s[k]:=by
 obtain⟨d⟩:=s
 have h':k<d.size:=h
 show d.toList[k]?=some d[k]
 simp[h']
theorem bI (s:ByteArray):s.data.toList.length=s.size:=by
 show s.data.toList.length=s.data.size
 simp only[Array.length_toList]
theorem mD (s t:ByteArray) (w:World) (hs:s.size≤9223372036854775807):Calls prog 120 #[.string s,.string t] w fun e w'=>e=.returned (.int .i64 (jI s t))∧w=w':=by
 go_enter func120,ntmps120
 go_wp2
 go_loop [8] (fun iv=>∃k:Nat,k≤s.size∧iv=.int .i64 k∧Hid (∀j y,j<k→s.data.toList[j]?=some y→iT t.data.toList y=false)) (fun iv=>s.size-(intOf iv).toNat)
 case atStart=>exact⟨0,Nat.zero_le _,rfl,fun j y hj=>absurd hj (Nat.not_lt_zero _)⟩
 case round=>
  obtain⟨k,hk,rfl,HB⟩:=hrel
  by_cases hlt:k<s.size
  ·have hx:=lE s k hlt
   have HX:=Hd hx
   clear hx
   have HI:=Hd (fun W=>uY t s[k] W)
   cases hb:inB t.data.toList s[k] with
   |true=>
    rw[hb] at HI
    have hn:iT t.data.toList s[k]=false:=by unfold iT;rw[hb];rfl
    have HN:=Hd hn
    clear hb hn
    go_wp2_with (go_at_call 119;refine(HI.out _).mono ?_;rintro e w' ⟨rfl,rfl⟩)
    go_round
    case rel=>exact⟨k+1,by omega,by go_num,Hd (mJ HX.out HN.out HB.out)⟩
    case measure=>simp[intOf];omega
   |false=>
    rw[hb] at HI
    have hn:iT t.data.toList s[k]=true:=by unfold iT;rw[hb];rfl
    have he:jI s t=k:=by
     unfold jI
     rw[pM HX.out hn HB.out,if_neg (by omega)]
    have HE:=Hd he
    clear hb hn he
    go_wp2_with (go_at_call 119;refine(HI.out _).mono ?_;rintro e w' ⟨rfl,rfl⟩)
    go_ret
    exact⟨kD HE.out.symm,rfl⟩
  ·obtain rfl:k=s.size:=by omega
   have he:jI s t=s.size:=by
    unfold jI
    rw[if_pos (jW (fun j y hj hy=>HB.out j y (by rw[←bI];exact hj) hy))]
   have HE:=Hd he
   clear he
   go_wp2
   go_ret
   exact⟨kD HE.out.symm,rfl⟩
def dT:En ByteArray:=⟨fun s=>[.string s],1,by omega,fun _=>rfl,fun x u hu=>by simp at hu;rcases hu with rfl;rfl⟩
theorem dD {w:World} {A:Option Addr} {c:Nat} {xs:List ByteArray} (h:dT.At w A c xs) (k:Nat) (x:ByteArray) (hx:xs[k]?=some x):
 ∃b off,A=some ⟨b,off,none⟩∧b<w.heap.size∧w.cell? ⟨b,off+k,none⟩=some (.string x):=by
 obtain⟨b,off,hA,hlt,hc⟩:=h.get k x hx
 have h0:=hc 0 (by decide)
 have e:k * dT.sz+0=k:=by show k * 1+0=k;omega
 rw[e] at h0
 exact⟨b,off,hA,hlt,h0⟩
def eqS (a b:ByteArray):Bool:=a.toList==b.toList
theorem aEa (A:Option Addr) (c n:Nat) (xs:List ByteArray) (hn:xs.length=n) (v:ByteArray) (w:World) (h:dT.At w A c xs):Calls prog 269 #[.slice A n c,.string v] w fun e w'=>e=.returned (.int .i64 (fI (eqS v) xs))∧w=w':=by
 have H:=Hd h
 have hle:n≤c:=by rw[←hn];exact h.le
 have hmax:=h.max
 have HN:=Hd hn
 clear h hn
 go_enter func269,ntmps269
 go_wp2
 go_loop [8] (fun iv=>∃k:Nat,k≤n∧iv=.int .i64 k∧Hid (∀j y,j<k→xs[j]?=some y→eqS v y=false)) (fun iv=>n-(intOf iv).toNat)
 case atStart=>exact⟨0,Nat.zero_le _,rfl,fun j y hj=>absurd hj (Nat.not_lt_zero _)⟩
 case round=>
  obtain⟨k,hk,rfl,HB⟩:=hrel
  by_cases hlt:k<n
  ·have hx:xs[k]?=some (xs[k]'(by have:=HN.out;omega)):=gE _
   obtain⟨b,off,rfl,hbl,c0⟩:=dD H.out k _ hx
   generalize xs[k]'(by have:=HN.out;omega)=x at c0 hx
   have HX:=Hd hx
   clear hx
   cases hb:eqS v x with
   |false=>
    have g1:(v.toList==x.toList)=false:=hb
    have HN2:=Hd hb
    clear hb
    go_wp2
    go_round
    case rel=>exact⟨k+1,by omega,by go_num,Hd (mJ HX.out HN2.out HB.out)⟩
    case measure=>simp[intOf];omega
   |true=>
    have g1:(v.toList==x.toList)=true:=hb
    have HE:=Hd (pM HX.out hb HB.out)
    clear hb
    go_wp2
    go_ret
    exact⟨kD HE.out.symm,rfl⟩
  ·obtain rfl:k=n:=by omega
   have HE:=Hd (jW (p:=eqS v) (xs:=xs) (fun j y hj hy=>HB.out j y (by have:=HN.out;omega) hy))
   go_wp2
   go_ret
   exact⟨kD HE.out.symm,rfl⟩
theorem vE (A:Option Addr) (c n:Nat) (xs:List ByteArray) (hn:xs.length=n) (v:ByteArray) (w:World) (h:dT.At w A c xs):Calls prog 209 #[.slice A n c,.string v] w fun e w'=>e=.returned (.bool (xs.any (eqS v)))∧w=w':=by
 have HI:=Hd (fun W hW=>aEa A c n xs hn v W hW)
 have H:=Hd h
 have he:xs.any (eqS v)=decide (0≤fI (eqS v) xs):=by
  unfold fI
  cases hf:xs.findIdx? (eqS v) with
  |none=>
   rw[List.findIdx?_eq_none_iff] at hf
   rw[Bool.eq_iff_iff]
   simp only[List.any_eq_true,decide_eq_true_eq]
   constructor
   ·rintro⟨x,hx,hp⟩
    rw[hf x hx] at hp
    cases hp
   ·intro h0
    omega
  |some i=>
   obtain⟨hi,hp,_⟩:=List.findIdx?_eq_some_iff_getElem.1 hf
   rw[Bool.eq_iff_iff]
   simp only[List.any_eq_true,decide_eq_true_eq]
   exact⟨fun _=>by omega,fun _=>⟨_,List.getElem_mem hi,hp⟩⟩
 rw[he]
 generalize fI (eqS v) xs=r at HI
 clear he h hn
 go_enter func209,ntmps209
 go_wp2_with (go_at_call 269;refine(HI.out _ H.out).mono ?_;rintro e w' ⟨rfl,rfl⟩)
 go_ret
 exact⟨rfl,rfl⟩
abbrev LETB:ByteArray:=⟨#[97,98,99,100,101,102,103,104,105,106,107,108,109,110,111,112,113,114,115,116,117,118,119,120,121,122]⟩
abbrev tB:ByteArray:=⟨#[97,98,99,100,101,102,103,104,105,106,107,108,109,110,111,112,113,114,115,116,117,118,119,120,121,122,48,49,50,51,52,53,54,55,56,57]⟩
abbrev W11:List ByteArray:=[⟨#[108,111,119,101,115,116]⟩,⟨#[115,101,99,111,110,100]⟩,⟨#[102,114,111,109]⟩,⟨#[108,101,115,115]⟩,⟨#[99,117,116]⟩,⟨#[109,105,110]⟩,⟨#[109,97,120]⟩,⟨#[101,108,115,101]⟩,⟨#[105,102]⟩,⟨#[109,111,114,101]⟩,⟨#[97,98,111,118,101]⟩]
abbrev C11:Array Value:=#[.string ⟨#[108,111,119,101,115,116]⟩,.string ⟨#[115,101,99,111,110,100]⟩,.string ⟨#[102,114,111,109]⟩,.string ⟨#[108,101,115,115]⟩,.string ⟨#[99,117,116]⟩,.string ⟨#[109,105,110]⟩,.string ⟨#[109,97,120]⟩,.string ⟨#[101,108,115,101]⟩,.string ⟨#[105,102]⟩,.string ⟨#[109,111,114,101]⟩,.string ⟨#[97,98,111,118,101]⟩]
def Ret (v:Value) (w:World) (e:Ending) (w':World):Prop:=e=.returned v∧Below w.heap.size w w'
theorem litW (w:World):dT.Own 9 (w.alloc (.cells C11 9)) w.heap.size (some ⟨w.heap.size,0,none⟩) 11 W11:=
 En.Own.lit dT w w.heap.size 9 C11 W11 nR (by decide) rfl
def jF (s:ByteArray):Bool:=W11.any (eqS s)
theorem jE (s:ByteArray) (w:World):Calls prog 121 #[.string s] w (Ret (.bool (jF s)) w):=by
 have HC:Hid (Calls prog 209 #[.slice (some ⟨w.heap.size,0,none⟩) 11 11,.string s] (w.alloc (.cells C11 9)) fun e w'=>e=.returned (.bool (jF s))∧w.alloc (.cells C11 9)=w'):=vE _ 11 11 W11 rfl s _ (litW w).at_
 generalize jF s=b at HC ⊢
 go_enter func121,ntmps121
 go_wp2_with (go_at_call 209;refine HC.out.mono ?_;rintro e w' ⟨rfl,rfl⟩)
 go_ret
 exact⟨rfl,aB bR _⟩
theorem xG (a b:ByteArray):eqS a b=eqS b a:=by unfold eqS;exact Bool.beq_comm
theorem aDb (s:ByteArray) (w:World):Calls prog 266 #[.string s] w (Ret (.bool (jF s)) w):=by
 have HA:=Hd (litW w).at_
 go_enter func266,ntmps266
 go_wp2
 obtain⟨W,hW⟩:∃W,w.alloc (.cells C11 9)=W:=⟨_,rfl⟩
 have HB:Hid (Below w.heap.size w W):=by rw[←hW];exact aB bR _
 have HA2:Hid (dT.At W (some ⟨w.heap.size,0,none⟩) 11 W11):=by rw[←hW];exact HA.out
 change Code.wp _ _ _ _ (w.alloc (.cells C11 9))
 rw[hW]
 clear hW HA
 generalize w.heap.size=g at HA2 ⊢
 go_loop [4] (fun iv=>∃k:Nat,k≤11∧iv=.int .i64 k∧Hid (∀j y,j<k→W11[j]?=some y→eqS s y=false)) (fun iv=>11-(intOf iv).toNat)
 case atStart=>exact⟨0,Nat.zero_le _,rfl,fun j y hj=>absurd hj (Nat.not_lt_zero _)⟩
 case round=>
  obtain⟨k,hk,rfl,HK⟩:=hrel
  by_cases hlt:k<11
  ·have hx:W11[k]?=some (W11[k]'hlt):=gE _
   obtain⟨b,off,e1,hbl,c0⟩:=dD HA2.out k _ hx
   injection e1 with e1
   injection e1 with e1 e2
   subst e1 e2
   rw[Nat.zero_add] at c0
   generalize W11[k]'hlt=x at c0 hx
   have HX:=Hd hx
   clear hx
   cases hb:eqS s x with
   |false=>
    have g1:(x.toList==s.toList)=false:=by rw[←hb];exact xG x s
    have HN:=Hd hb
    clear hb
    go_wp2
    go_round
    case rel=>exact⟨k+1,by omega,by go_num,Hd (mJ HX.out HN.out HK.out)⟩
    case measure=>simp[intOf];omega
   |true=>
    have g1:(x.toList==s.toList)=true:=by rw[←hb];exact xG x s
    have HE:Hid (jF s=true):=Hd (by
     unfold jF
     rw[List.any_eq_true]
     exact⟨x,List.mem_of_getElem? HX.out,hb⟩)
    clear hb
    go_wp2
    go_ret
    exact⟨by rw[HE.out];rfl,HB.out⟩
  ·obtain rfl:k=11:=by omega
   have HE:Hid (jF s=false):=Hd (by
    unfold jF
    rw[List.any_eq_false]
    intro x hx
    obtain⟨j,hj,rfl⟩:=List.mem_iff_getElem.1 hx
    rw[HK.out j _ hj (gE hj)]
    decide)
   go_wp2
   go_ret
   exact⟨by rw[HE.out];rfl,HB.out⟩
def fL (c:UInt8):Bool:=decide (97≤(c.toNat:Int)∧(c.toNat:Int)≤122)
def bY (c:UInt8):Bool:=decide (48≤(c.toNat:Int)∧(c.toNat:Int)≤57)
theorem zQ (c:UInt8) (w:World):Calls prog 265 #[.int .u8 c.toNat] w fun e w'=>e=.returned (.bool (fL c))∧w=w':=by
 unfold fL
 by_cases h1:97≤(c.toNat:Int)
 ·by_cases h2:(c.toNat:Int)≤122
  ·rw[decide_eq_true ⟨h1,h2⟩]
   go_enter func265,ntmps265
   go_wp2
   go_ret
   exact⟨rfl,rfl⟩
  ·rw[decide_eq_false (fun k=>h2 k.2)]
   go_enter func265,ntmps265
   go_wp2
   go_ret
   exact⟨rfl,rfl⟩
 ·rw[decide_eq_false (fun k=>h1 k.1)]
  go_enter func265,ntmps265
  go_wp2
  go_ret
  exact⟨rfl,rfl⟩
theorem aE4 (c:UInt8) (w:World):Calls prog 267 #[.int .u8 c.toNat] w fun e w'=>e=.returned (.bool (bY c))∧w=w':=by
 unfold bY
 by_cases h1:48≤(c.toNat:Int)
 ·by_cases h2:(c.toNat:Int)≤57
  ·rw[decide_eq_true ⟨h1,h2⟩]
   go_enter func267,ntmps267
   go_wp2
   go_ret
   exact⟨rfl,rfl⟩
  ·rw[decide_eq_false (fun k=>h2 k.2)]
   go_enter func267,ntmps267
   go_wp2
   go_ret
   exact⟨rfl,rfl⟩
 ·rw[decide_eq_false (fun k=>h1 k.1)]
  go_enter func267,ntmps267
  go_wp2
  go_ret
  exact⟨rfl,rfl⟩
theorem aHw (c:UInt8):inB LETB.data.toList c=fL c:=by
 have h:∀n:Fin 256,inB LETB.data.toList (UInt8.ofNat n.val)=fL (UInt8.ofNat n.val):=by decide +kernel
 have:=h ⟨c.toNat,c.toNat_lt⟩
 simpa using this
theorem aKl (c:UInt8):inB tB.data.toList c=(fL c || bY c):=by
 have h:∀n:Fin 256,inB tB.data.toList (UInt8.ofNat n.val)=(fL (UInt8.ofNat n.val) || bY (UInt8.ofNat n.val)):=by decide +kernel
 have:=h ⟨c.toNat,c.toNat_lt⟩
 simpa using this
def nL (c:UInt8):Bool:=fL c || bY c
def aZ (s:ByteArray):Bool:=decide (0<s.size)&&decide (s.size≤12)&&fL (s.data.toList.headD 0)&&s.data.toList.all nL&&!jF s
theorem kB {a b:ByteArray} (h:eqS a b=true):a=b:=by
 unfold eqS at h
 rw[beq_iff_eq,ByteArray.toList_eq,ByteArray.toList_eq] at h
 obtain⟨x⟩:=a
 obtain⟨y⟩:=b
 have:x=y:=Array.toList_inj.1 h
 rw[this]
theorem oN (a:ByteArray):eqS a a=true:=by unfold eqS;exact beq_self_eq_true _
theorem aI1 {a b:ByteArray} (h:eqS a b=false):a≠b:=fun e=>by rw[e,oN] at h;cases h
theorem aLd (s:ByteArray) (h:s.data.toList.all nL=true):jI s tB=s.size:=by
 unfold jI
 rw[if_pos (jW fun j y hj hy=>by
  have:=List.all_eq_true.1 h y (List.mem_of_getElem? hy)
  unfold iT
  rw[aKl]
  unfold nL at this
  rw[this];rfl)]
theorem aLb (s:ByteArray) (h:s.data.toList.all nL=false):0≤jI s tB∧jI s tB<s.size:=by
 have hbd:=aOi (iT tB.data.toList) s.data.toList
 have hne:fI (iT tB.data.toList) s.data.toList≠-1:=by
  intro e
  obtain⟨x,hx,hp⟩:=List.all_eq_false.1 h
  unfold fI at e
  cases hf:s.data.toList.findIdx? (iT tB.data.toList) with
  |none=>
   rw[List.findIdx?_eq_none_iff] at hf
   have h1:=hf x hx
   unfold iT at h1
   rw[aKl] at h1
   unfold nL at hp
   cases hq:(fL x || bY x) with
   |true=>exact hp hq
   |false=>rw[hq] at h1;cases h1
  |some i=>rw[hf] at e;simp at e
 unfold jI
 rw[if_neg hne]
 rw[bI] at hbd
 omega
theorem gQ (s:ByteArray):s.toList.isEmpty=decide (s.size=0):=by
 rw[ByteArray.toList_eq,←bI]
 cases s.data.toList with
 |nil=>rfl
 |cons a l=>rw[decide_eq_false (by simp)];rfl
theorem eB (s:ByteArray) (w:World) (hs:s.size≤9223372036854775807):Calls prog 60 #[.string s] w (Ret (.bool (aZ s)) w):=by
 have HW:=Hd (fun W=>jE s W)
 have HR:=Hd (fun W=>mD s tB W hs)
 have HL:=Hd (fun(c:UInt8) W=>uY LETB c W)
 by_cases h0:0<s.size
 ·have e0:s.toList.isEmpty=false:=by rw[gQ];exact decide_eq_false (by omega)
  by_cases h1:s.size≤12
  ·have hd:s.data.toList.headD 0=s[0]:=by
    have hb:=lE s 0 h0
    cases hl:s.data.toList with
    |nil=>rw[hl] at hb;simp at hb
    |cons a l=>rw[hl] at hb;simpa using hb
   cases h2:fL s[0] with
   |true=>
    have HL2:=Hd (fun W=>HL.out s[0] W)
    rw[aHw,h2] at HL2
    cases h3:s.data.toList.all nL with
    |true=>
     rw[aLd s h3] at HR
     have HN:Hid (aZ s=!jF s):=Hd (by unfold aZ;rw[decide_eq_true h0,decide_eq_true h1,hd,h2,h3];rfl)
     clear HL h2 h3 hd
     cases h4:jF s with
     |true=>
      rw[h4] at HW HN
      have HN2:=Hd HN.out
      clear h4 HN
      go_enter func60,ntmps60
      go_wp2_with (first
       |(go_at_call 119;refine(HL2.out _).mono ?_;rintro e w' ⟨rfl,rfl⟩)
       |(go_at_call 120;refine(HR.out _).mono ?_;rintro e w' ⟨rfl,rfl⟩)
       |(go_at_call 121;refine(HW.out _).mono ?_;rintro e w' ⟨rfl,hb⟩;have HB:=Hd hb;clear hb))
      go_ret
      exact⟨by rw[HN2.out];rfl,HB.out⟩
     |false=>
      rw[h4] at HW HN
      have HN2:=Hd HN.out
      clear h4 HN
      go_enter func60,ntmps60
      go_wp2_with (first
       |(go_at_call 119;refine(HL2.out _).mono ?_;rintro e w' ⟨rfl,rfl⟩)
       |(go_at_call 120;refine(HR.out _).mono ?_;rintro e w' ⟨rfl,rfl⟩)
       |(go_at_call 121;refine(HW.out _).mono ?_;rintro e w' ⟨rfl,hb⟩;have HB:=Hd hb;clear hb))
      go_ret
      exact⟨by rw[HN2.out];rfl,HB.out⟩
    |false=>
     obtain⟨r0,r1⟩:=aLb s h3
     have HN:Hid (aZ s=false):=Hd (by unfold aZ;rw[h3];simp)
     generalize jI s tB=r at HR r0 r1
     have g1:(r==(s.size:Int))=false:=by simp;omega
     clear HL h2 h3 hd
     go_enter func60,ntmps60
     go_wp2_with (first
      |(go_at_call 119;refine(HL2.out _).mono ?_;rintro e w' ⟨rfl,rfl⟩)
      |(go_at_call 120;refine(HR.out _).mono ?_;rintro e w' ⟨rfl,rfl⟩))
     go_ret
     exact⟨by rw[HN.out];rfl,bR⟩
   |false=>
    have HL2:=Hd (fun W=>HL.out s[0] W)
    rw[aHw,h2] at HL2
    have HN:Hid (aZ s=false):=Hd (by unfold aZ;rw[hd,h2];simp)
    clear HL h2 hd
    go_enter func60,ntmps60
    go_wp2_with (go_at_call 119;refine(HL2.out _).mono ?_;rintro e w' ⟨rfl,rfl⟩)
    go_ret
    exact⟨by rw[HN.out];rfl,bR⟩
  ·have HN:Hid (aZ s=false):=Hd (by unfold aZ;rw[decide_eq_false h1];simp)
   go_enter func60,ntmps60
   go_wp2
   go_ret
   exact⟨by rw[HN.out];rfl,bR⟩
 ·have e0:s.toList.isEmpty=true:=by rw[gQ];exact decide_eq_true (by omega)
  have e1:=List.isEmpty_iff.1 e0
  have HN:Hid (aZ s=false):=Hd (by unfold aZ;rw[decide_eq_false h0];simp)
  go_enter func60,ntmps60
  go_wp2
  go_ret
  exact⟨by rw[HN.out];rfl,bR⟩
theorem aDd (s:ByteArray) (w:World) (hs:s.size≤9223372036854775807):Calls prog 206 #[.string s] w (Ret (.bool (aZ s)) w):=by
 have HW:=Hd (fun W=>aDb s W)
 have HL:=Hd (fun(c:UInt8) W=>zQ c W)
 have HD:=Hd (fun(c:UInt8) W=>aE4 c W)
 by_cases h0:0<s.size
 ·have e0:s.toList.isEmpty=false:=by rw[gQ];exact decide_eq_false (by omega)
  by_cases h1:s.size≤12
  ·have hd:s.data.toList.headD 0=s[0]:=by
    have hb:=lE s 0 h0
    cases hl:s.data.toList with
    |nil=>rw[hl] at hb;simp at hb
    |cons a l=>rw[hl] at hb;simpa using hb
   cases h2:fL s[0] with
   |true=>
    have HL2:=Hd (fun W=>HL.out s[0] W)
    rw[h2] at HL2
    cases h4:jF s with
    |true=>
     rw[h4] at HW
     have HN:Hid (aZ s=false):=Hd (by unfold aZ;rw[h4];simp)
     clear HL h2 h4 hd
     go_enter func206,ntmps206
     go_wp2_with (first
      |(go_at_call 265;refine(HL2.out _).mono ?_;rintro e w' ⟨rfl,rfl⟩)
      |(go_at_call 266;refine(HW.out _).mono ?_;rintro e w' ⟨rfl,hb⟩;have HB:=Hd hb;clear hb))
     go_ret
     exact⟨by rw[HN.out];rfl,HB.out⟩
    |false=>
     rw[h4] at HW
     have HN:Hid (aZ s=s.data.toList.all nL):=Hd (by unfold aZ;rw[decide_eq_true h0,decide_eq_true h1,hd,h2,h4];simp)
     clear h2 h4 hd
     go_enter func206,ntmps206
     go_wp2_with (first
      |(go_at_call 265;refine(HL2.out _).mono ?_;rintro e w' ⟨rfl,rfl⟩)
      |(go_at_call 266;refine(HW.out _).mono ?_;rintro e w1 ⟨rfl,hb⟩;have HB:=Hd hb;clear hb))
     go_loop [3] (fun iv=>∃k:Nat,k≤s.size∧iv=.int .i64 k∧Hid (∀j y,j<k→s.data.toList[j]?=some y→nL y=true)) (fun iv=>s.size-(intOf iv).toNat)
     case atStart=>exact⟨0,Nat.zero_le _,rfl,fun j y hj=>absurd hj (Nat.not_lt_zero _)⟩
     case round=>
      obtain⟨k,hk,rfl,HK⟩:=hrel
      by_cases hlt:k<s.size
      ·have HX:=Hd (lE s k hlt)
       have HL3:=Hd (fun W=>HL.out s[k] W)
       have HD3:=Hd (fun W=>HD.out s[k] W)
       cases hl:fL s[k] with
       |true=>
        rw[hl] at HL3
        have ha:nL s[k]=true:=by unfold nL;rw[hl];rfl
        have HA:=Hd ha
        clear hl ha
        go_wp2_with (go_at_call 265;refine(HL3.out _).mono ?_;rintro e w' ⟨rfl,rfl⟩)
        go_round
        case rel=>
         refine⟨k+1,by omega,by go_num,fun j y hj hy=>?_⟩
         by_cases hjk:j<k
         ·exact HK.out j y hjk hy
         ·obtain rfl:j=k:=by omega
          rw[HX.out] at hy
          rw[←Option.some.inj hy]
          exact HA.out
        case measure=>simp[intOf];omega
       |false=>
        rw[hl] at HL3
        cases hg:bY s[k] with
        |true=>
         rw[hg] at HD3
         have ha:nL s[k]=true:=by unfold nL;rw[hl,hg];rfl
         have HA:=Hd ha
         clear hl hg ha
         go_wp2_with (first
          |(go_at_call 265;refine(HL3.out _).mono ?_;rintro e w' ⟨rfl,rfl⟩)
          |(go_at_call 267;refine(HD3.out _).mono ?_;rintro e w' ⟨rfl,rfl⟩))
         go_round
         case rel=>
          refine⟨k+1,by omega,by go_num,fun j y hj hy=>?_⟩
          by_cases hjk:j<k
          ·exact HK.out j y hjk hy
          ·obtain rfl:j=k:=by omega
           rw[HX.out] at hy
           rw[←Option.some.inj hy]
           exact HA.out
         case measure=>simp[intOf];omega
        |false=>
         rw[hg] at HD3
         have hf:s.data.toList.all nL=false:=by
          rw[List.all_eq_false]
          exact⟨s[k],List.mem_of_getElem? HX.out,by unfold nL;rw[hl,hg];decide⟩
         have HF:=Hd (HN.out.trans hf)
         clear hl hg hf
         go_wp2_with (first
          |(go_at_call 265;refine(HL3.out _).mono ?_;rintro e w' ⟨rfl,rfl⟩)
          |(go_at_call 267;refine(HD3.out _).mono ?_;rintro e w' ⟨rfl,rfl⟩))
         go_ret
         exact⟨by rw[HF.out];rfl,HB.out⟩
      ·obtain rfl:k=s.size:=by omega
       have hf:s.data.toList.all nL=true:=by
        rw[List.all_eq_true]
        intro y hy
        obtain⟨j,hj,rfl⟩:=List.mem_iff_getElem.1 hy
        exact HK.out j _ (by rw[←bI];exact hj) (gE hj)
       have HF:=Hd (HN.out.trans hf)
       clear hf
       go_wp2
       go_ret
       exact⟨by rw[HF.out];rfl,HB.out⟩
   |false=>
    have HL2:=Hd (fun W=>HL.out s[0] W)
    rw[h2] at HL2
    have HN:Hid (aZ s=false):=Hd (by unfold aZ;rw[hd,h2];simp)
    clear HL h2 hd
    go_enter func206,ntmps206
    go_wp2_with (go_at_call 265;refine(HL2.out _).mono ?_;rintro e w' ⟨rfl,rfl⟩)
    go_ret
    exact⟨by rw[HN.out];rfl,bR⟩
  ·have HN:Hid (aZ s=false):=Hd (by unfold aZ;rw[decide_eq_false h1];simp)
   go_enter func206,ntmps206
   go_wp2
   go_ret
   exact⟨by rw[HN.out];rfl,bR⟩
 ·have e0:s.toList.isEmpty=true:=by rw[gQ];exact decide_eq_true (by omega)
  have e1:=List.isEmpty_iff.1 e0
  have HN:Hid (aZ s=false):=Hd (by unfold aZ;rw[decide_eq_false h0];simp)
  go_enter func206,ntmps206
  go_wp2
  go_ret
  exact⟨by rw[HN.out];rfl,bR⟩
end Go.Proofs.YtlibhkkckgkkkaaGreatDoor.Boo
namespace Go.Proofs.YtlibhkkckgkkkaaGreatDoor.Tf
open Go.RowKit Go.Proofs.YtlibhkkckgkkkaaGreatDoor.Mem Go.Proofs.YtlibhkkckgkkkaaGreatDoor.Boo
structure Fr (O:List Nat) (w w':World):Prop where
 os:w'.os=w.os
 tape:w'.tape=w.tape
 output:w'.output=w.output
 size:w.heap.size≤w'.heap.size
 block:∀k,k<w.heap.size→k∉O→w'.heap[k]?=w.heap[k]?
def New (O:List Nat) (w:World) (O':List Nat):Prop:=∀x∈O',x∈O∨w.heap.size≤x
section
variable {O O':List Nat} {w w' w1 w2:World}
theorem Fr.of_below (h:Below w.heap.size w w') (O:List Nat):Fr O w w':=⟨h.os,h.tape,h.output,h.size,fun k hk _=>h.block k hk⟩
theorem Fr.refl (O:List Nat) (w:World):Fr O w w:=⟨rfl,rfl,rfl,nR,fun _ _ _=>rfl⟩
theorem Fr.below {B:Nat} (h:Fr O w w') (hB:B≤w.heap.size) (hO:∀x∈O,B≤x):Below B w w':=⟨h.os,h.tape,h.output,h.size,fun k hk=>h.block k (by omega) (fun hm=>by have:=hO k hm;omega)⟩
theorem Fr.step (h:Fr O w w1) (k:Fr O' w1 w2) (hn:New O w O'):Fr O w w2:=
 ⟨k.os.trans h.os,k.tape.trans h.tape,k.output.trans h.output,Nat.le_trans h.size k.size,fun q hq hO=>(k.block q (Nat.lt_of_lt_of_le hq h.size) (fun hm=>by rcases hn q hm with e|e;exact hO e;omega)).trans (h.block q hq hO)⟩
theorem Fr.then_below (h:Fr O w w1) (k:Below w1.heap.size w1 w2):Fr O w w2:=h.step (Fr.of_below k []) (fun x hx=>by cases hx)
theorem Fr.of_below_then (h:Below w.heap.size w w1) (k:Fr O w1 w2):Fr O w w2:=
 ⟨k.os.trans h.os,k.tape.trans h.tape,k.output.trans h.output,Nat.le_trans h.size k.size,fun q hq hm=>(k.block q (Nat.lt_of_lt_of_le hq h.size) hm).trans (h.block q hq)⟩
theorem New.refl (O:List Nat) (w:World):New O w O:=fun _ h=>.inl h
theorem New.step {O1 O2:List Nat} (h:New O w O1) (k:New O1 w1 O2) (hs:w.heap.size≤w1.heap.size):New O w O2:=fun x hx=>by
 rcases k x hx with h1|h1
 ·exact h x h1
 ·exact .inr (by omega)
theorem Fr.cell (h:Fr O w w') {p:Addr} (hp:p.block<w.heap.size) (hO:p.block∉O):w'.cell? p=w.cell? p:=by
 have:=h.block p.block hp hO
 unfold World.cell?
 rw[this]
theorem Fr.set (h:Fr O w w') {p:Addr} (hp:p.block∈O∨w.heap.size≤p.block) (u:Value):Fr O w (w'.setCell p u):=by
 have hb:Below p.block w' (w'.setCell p u):=bR.setCell nR u
 refine⟨hb.os.trans h.os,hb.tape.trans h.tape,hb.output.trans h.output,Nat.le_trans h.size hb.size,fun k hk hO=>?_⟩
 have hne:k≠p.block:=by
  rintro rfl
  rcases hp with hp|hp
  ·exact hO hp
  ·omega
 exact(heap_setCell_other w' p k u hne).trans (h.block k hk hO)
end
end Go.Proofs.YtlibhkkckgkkkaaGreatDoor.Tf
namespace Go.Proofs.YtlibhkkckgkkkaaGreatDoor.Boo
open Go.RowKit Go.Proofs.YtlibhkkckgkkkaaGreatDoor.Mem Go.Proofs.Tryz
structure eG where
 s:ByteArray
 p:Int
 t:Int
structure fA where
 s:ByteArray
 n:Int
structure aW where
 s:ByteArray
 p:Int
def dL:En eG:=⟨fun m=>[.string m.s,.int .i64 m.p,.int .i64 m.t],3,by omega,fun _=>rfl,fun x u hu=>by simp at hu;rcases hu with rfl|rfl|rfl <;> rfl⟩
def dN:En fA:=⟨fun m=>[.string m.s,.int .i64 m.n],2,by omega,fun _=>rfl,fun x u hu=>by simp at hu;rcases hu with rfl|rfl <;> rfl⟩
def dF:En aW:=⟨fun m=>[.string m.s,.int .i64 m.p],2,by omega,fun _=>rfl,fun x u hu=>by simp at hu;rcases hu with rfl|rfl <;> rfl⟩
def eG.val (m:eG):Value:=.agg #[.string m.s,.int .i64 m.p,.int .i64 m.t]
def fA.val (m:fA):Value:=.agg #[.string m.s,.int .i64 m.n]
theorem aH6:(prog.info? 249).map (fun i=>(i.zero,i.size,i.bytes))=some (some (.agg #[.string ⟨#[]⟩,.int .i64 0,.int .i64 0]),3,32):=by kernel_rfl
theorem aH4:(prog.info? 239).map (fun i=>(i.zero,i.size,i.bytes))=some (some (.agg #[.string ⟨#[]⟩,.int .i64 0]),2,24):=by kernel_rfl
theorem zW:(prog.info? 44).map (fun i=>(i.zero,i.size,i.bytes))=some (some (.agg #[.string ⟨#[]⟩,.int .i64 0]),2,24):=by kernel_rfl
def Ent (f:Nat):Prop:=∀args W,(callFunc f args).run prog W=.ok (.enter f args) W
def eV {α:Type} (d:En α) (e:TypeId) (w:World) (xs:List α) (n:Nat) (r:Ending) (w':World):Prop:=∃A c,r=.returned (.slice A n c)∧d.Own e w' w.heap.size A c xs∧Below w.heap.size w w'
def yG {α:Type} (d:En α) (e:TypeId) (w:World) (xs:List α) (n:Nat) (b:Bool) (r:Ending) (w':World):Prop:=∃A c,r=.returned (.tuple #[.slice A n c,.bool b])∧d.Own e w' w.heap.size A c xs∧Below w.heap.size w w'
theorem aNw {α:Type} (d:En α) (xs:List α) (k:Nat) (x y:α) (hx:xs[k]?=some x) (j:Nat) (hj:j<d.sz) (u:Value) (he:(d.enc x).set j u=d.enc y):(d.cs xs).set (k * d.sz+j) u=d.cs (xs.set k y):=by
 have hk:=(List.getElem?_eq_some_iff.1 hx).1
 refine d.cs_ext _ _ (by rw[List.length_set,d.cs_length,List.length_set]) fun q z hz i hi=>?_
 have hlt:k * d.sz+j<xs.length * d.sz:=by
  have:=Nat.mul_le_mul_right d.sz hk
  rw[Nat.succ_mul] at this
  omega
 by_cases hq:k=q
 ·subst hq
  have e:z=y:=by
   rw[List.getElem?_set_self hk] at hz
   exact(Option.some.inj hz).symm
  subst e
  rw[←he,List.getElem?_set,List.getElem?_set,d.cs_length,d.len]
  by_cases hji:j=i
  ·subst hji
   rw[if_pos rfl,if_pos rfl,if_pos hlt,if_pos hj]
  ·rw[if_neg (by omega),if_neg hji]
   exact d.cs_get xs k x hx i hi
 ·rw[List.getElem?_set_ne hq] at hz
  have hne:k * d.sz+j≠q * d.sz+i:=by
   intro e
   have h1:(k * d.sz+j) / d.sz=k:=by rw[Nat.mul_comm,Nat.mul_add_div d.pos,Nat.div_eq_of_lt hj];rfl
   have h2:(q * d.sz+i) / d.sz=q:=by rw[Nat.mul_comm,Nat.mul_add_div d.pos,Nat.div_eq_of_lt hi];rfl
   rw[e,h2] at h1
   exact hq h1.symm
  rw[List.getElem?_set_ne hne]
  exact d.cs_get xs q z hz i hi
theorem gY {α:Type} {d:En α} {e:TypeId} {w:World} {base g c:Nat} {xs:List α} (h:d.Own e w base (some ⟨g,0,none⟩) c xs) (k:Nat) (x y:α) (hx:xs[k]?=some x) (j:Nat) (hj:j<d.sz) (u:Value) (he:(d.enc x).set j u=d.enc y):
 d.Own e (w.setCell ⟨g,k * d.sz+j,none⟩ u) base (some ⟨g,0,none⟩) c (xs.set k y):=by
 have h1:=(World.ownsRow.stored h (k * d.sz+j) u).1
 unfold En.Own
 rw[List.length_set,←aNw d xs k x y hx j hj u he]
 exact h1
def cY {α:Type} (so:α→Bool) (y:α) (most:Nat) (xs:List α):List α:=if fI so xs=-1 then(if most≤xs.length then[] else xs++[y]) else xs.set (fI so xs).toNat y
def gX {α:Type} (so:α→Bool) (most:Nat) (xs:List α):Bool:=if fI so xs=-1 then decide (xs.length<most) else true
theorem sI {α:Type} {p:α→Bool} {xs:List α} (h:fI p xs≠-1):∃k x,fI p xs=(k:Nat)∧xs[k]?=some x∧p x=true:=by
 unfold fI at h ⊢
 cases hf:xs.findIdx? p with
 |none=>rw[hf] at h;simp at h
 |some i=>
  obtain⟨hi,hp,_⟩:=List.findIdx?_eq_some_iff_getElem.1 hf
  exact⟨i,_,rfl,gE hi,hp⟩
theorem vJ {w:World} {A:Option Addr} {c:Nat} {xs:List eG} (h:dL.At w A c xs) (k:Nat) (x:eG) (hx:xs[k]?=some x):
 ∃b off,A=some ⟨b,off,none⟩∧b<w.heap.size∧w.cell? ⟨b,off+k * 3,none⟩=some (.string x.s)∧w.cell? ⟨b,off+k * 3+1,none⟩=some (.int .i64 x.p)∧w.cell? ⟨b,off+k * 3+2,none⟩=some (.int .i64 x.t):=by
 obtain⟨b,off,hA,hlt,hc⟩:=h.get k x hx
 exact⟨b,off,hA,hlt,hc 0 (by decide),hc 1 (by decide),hc 2 (by decide)⟩
theorem aHh {w:World} {base:Nat} {A:Option Addr} {c:Nat} {xs:List eG} (h:dL.Own 249 w base A c xs) (k:Nat) (x:eG) (hx:xs[k]?=some x):
 ∃g,A=some ⟨g,0,none⟩∧base≤g∧g<w.heap.size∧w.cell? ⟨g,k * 3,none⟩=some (.string x.s)∧w.cell? ⟨g,k * 3+1,none⟩=some (.int .i64 x.p)∧w.cell? ⟨g,k * 3+2,none⟩=some (.int .i64 x.t):=by
 obtain⟨g,off,rfl,hlt,h0,h1,h2⟩:=vJ h.at_ k x hx
 obtain⟨rfl,hge,_⟩:=lB h
 rw[Nat.zero_add] at h0 h1 h2
 exact⟨g,rfl,hge,hlt,h0,h1,h2⟩
theorem aA5 (w:World):Calls prog 136 #[.slice none 0 0] w (eV dL 249 w [] 0):=by
 have heq:=fun W a n c=>Lib.run_eql_slice_nil (P:=prog) W 139 249 a n c 0 0 underlying139
 go_enter func136,ntmps136
 go_wp2
 go_ret
 exact⟨none,0,rfl,En.Own.none_ _ _ _,bR⟩
theorem xT (a:Addr) (c n:Nat) (xs:List eG) (hn:xs.length=n) (w:World) (h:dL.At w (some a) c xs) (hb:n * 32≤140737488355328):Calls prog 136 #[.slice (some a) n c] w (eV dL 249 w xs n):=by
 subst hn
 obtain⟨i0,hi,hz0,hz1,hz2⟩:=info_parts aH6
 have heq:=fun W a n c=>Lib.run_eql_slice_nil (P:=prog) W 139 249 a n c 0 0 underlying139
 have H:=Hd h
 clear h
 have hbel:Hid (Below w.heap.size w (w.alloc (.cells #[] 249))):=bR.alloc nR _
 go_enter func136,ntmps136
 go_wp2_with (at_builtin;refine aV dL _ rfl _ _ 139 rfl w.heap.size 249 i0 _ 32 underlying139 hi hz0 hz1 hz2 rfl (some ⟨w.heap.size,0,none⟩) 0 0 [] rfl rfl ?own (some a) c xs.length xs rfl rfl ?at_ ?m1 ?m2 ?m3 ?_)
 case own=>exact En.Own.lit dL w w.heap.size 249 #[] [] nR (Nat.zero_le _) rfl
 case at_=>exact H.out.below hbel.out
 case m1=>simp only[List.length_nil];omega
 case m2=>simp only[List.length_nil];omega
 case m3=>simp
 intro A' c' w' hown hg hat
 have HO:=Hd hown
 have HG:=Hd hg
 clear hown hg hat
 go_wp2
 go_ret
 exact⟨A',c',rfl,HO.out,hbel.out.grown HG.out (by simp) (fun k hk=>by simp[Value.ownBlock] at hk;omega)⟩
theorem aA6 (A:Option Addr) (c n:Nat) (xs:List eG) (hn:xs.length=n) (w:World) (h:dL.At w A c xs) (hb:n * 32≤140737488355328):Calls prog 136 #[.slice A n c] w (eV dL 249 w xs n):=by
 cases A with
 |none=>
  have hc:=h.nil rfl
  subst hc
  have hx:=List.eq_nil_of_length_eq_zero (Nat.le_zero.1 h.le)
  subst hx
  subst hn
  exact aA5 w
 |some a=>exact xT a c n xs hn w h hb
theorem aH9 (A:Option Addr) (c n:Nat) (xs:List eG) (hn:xs.length=n) (so:eG→Bool) (f:Nat) (K:Array Value) (w:World) (e2:Ent f) (h:dL.At w A c xs)
 (hm:∀x W,Below w.heap.size w W→Calls prog f (#[x.val]++K) W (Ret (.bool (so x)) W)):
 Calls prog 217 #[.slice A n c,.func (.func f) #[] K] w (Ret (.int .i64 (fI so xs)) w):=by
 have H:=Hd h
 have hle:n≤c:=by rw[←hn];exact h.le
 have hmax:=h.max
 have HN:=Hd hn
 have HM:=Hd hm
 have he2:∀args W,(callFunc f args).run prog W=.ok (.enter f args) W:=e2
 clear h hn hm e2
 go_enter func217,ntmps217
 go_wp2
 go_loopw [8] (fun iv wr=>∃k:Nat,k≤n∧iv=.int .i64 k∧Hid (∀j y,j<k→xs[j]?=some y→so y=false)∧Hid (Below w.heap.size w wr)) (fun iv _=>n-(intOf iv).toNat)
 case atStart=>exact⟨0,Nat.zero_le _,rfl,(fun j y hj=>absurd hj (Nat.not_lt_zero _)),bR⟩
 case round=>
  obtain⟨k,hk,rfl,HB,HL⟩:=hrel
  by_cases hlt:k<n
  ·have hx:xs[k]?=some (xs[k]'(by have:=HN.out;omega)):=gE _
   obtain⟨b,off,rfl,hbl,c0,c1,c2⟩:=vJ (H.out.below HL.out) k _ hx
   generalize xs[k]'(by have:=HN.out;omega)=x at c0 c1 c2 hx
   have HX:=Hd hx
   clear hx
   have HM2:=Hd (HM.out x wr HL.out)
   cases hb:so x with
   |false=>
    rw[hb] at HM2
    have HN2:=Hd hb
    clear hb
    go_wp2_with fail
    refine HM2.out.mono ?_
    rintro e w2 ⟨rfl,hbel⟩
    have HB2:=Hd hbel
    clear hbel
    go_wp2_with fail
    go_roundw
    case rel=>exact⟨k+1,by omega,by go_num,Hd (mJ HX.out HN2.out HB.out),aD HL.out HB2.out⟩
    case measure=>simp[intOf];omega
   |true=>
    rw[hb] at HM2
    have HE:=Hd (pM HX.out hb HB.out)
    clear hb
    go_wp2_with fail
    refine HM2.out.mono ?_
    rintro e w2 ⟨rfl,hbel⟩
    have HB2:=Hd hbel
    clear hbel
    go_wp2_with fail
    go_ret
    exact⟨kD HE.out.symm,aD HL.out HB2.out⟩
  ·obtain rfl:k=n:=by omega
   have HE:=Hd (jW (p:=so) (xs:=xs) (fun j y hj hy=>HB.out j y (by have:=HN.out;omega) hy))
   go_wp2
   go_ret
   exact⟨kD HE.out.symm,HL.out⟩
theorem aHe {w:World} {base g c:Nat} {xs:List eG} (h:dL.Own 249 w base (some ⟨g,0,none⟩) c xs) (k:Nat) (x y:eG) (hx:xs[k]?=some x):
 dL.Own 249 ((((w.setCell ⟨g,k * 3,none⟩ (.string y.s)).setCell ⟨g,k * 3+1,none⟩ (.int .i64 y.p)).setCell ⟨g,k * 3+2,none⟩ (.int .i64 y.t))) base (some ⟨g,0,none⟩) c (xs.set k y):=by
 have hk:=(List.getElem?_eq_some_iff.1 hx).1
 have z0:=gY h k _ (⟨y.s,x.p,x.t⟩:eG) hx 0 (by decide) (.string y.s) rfl
 have z1:=gY z0 k _ (⟨y.s,y.p,x.t⟩:eG) (List.getElem?_set_self (by first|exact hk|(simp only[List.length_set];exact hk))) 1 (by decide) (.int .i64 y.p) rfl
 have z2:=gY z1 k _ (⟨y.s,y.p,y.t⟩:eG) (List.getElem?_set_self (by first|exact hk|(simp only[List.length_set];exact hk))) 2 (by decide) (.int .i64 y.t) rfl
 simp only[List.set_set] at z2
 exact z2
theorem tC (A:Option Addr) (c n most:Nat) (xs:List eG) (hn:xs.length=n) (y:eG) (so:eG→Bool) (f:Nat) (K:Array Value) (w:World) (e2:Ent f) (h:dL.At w A c xs) (hb:n * 32≤140737488355328) (hmo:most≤1000)
 (hm:∀x W,Below w.heap.size w W→Calls prog f (#[x.val]++K) W (Ret (.bool (so x)) W)):
 Calls prog 220 #[.slice A n c,y.val,.int .i64 most,.func (.func f) #[] K] w (yG dL 249 w (cY so y most xs) (cY so y most xs).length (gX so most xs)):=by
 obtain⟨i0,hi,iz,isz,iby⟩:=info_parts aH6
 have H:=Hd h
 have hle:n≤c:=by rw[←hn];exact h.le
 have hmax:=h.max
 have HC:=Hd (fun W hW=>aA6 A c n xs hn W hW hb)
 have HI:=Hd (fun W (hW:Below w.heap.size w W)=>aH9 A c n xs hn so f K W e2 (h.below hW) (fun x W2 hW2=>hm x W2 (aD hW hW2)))
 have HN:=Hd hn
 clear h hn hm e2
 obtain⟨ys,yp,yt⟩:=y
 by_cases hf:fI so xs=-1
 ·rw[hf] at HI
  by_cases hr:most≤n
  ·have e1:cY so (⟨ys,yp,yt⟩:eG) most xs=[]:=by unfold cY;rw[if_pos hf,if_pos (by rw[HN.out];exact hr)]
   have e2:gX so most xs=false:=by unfold gX;rw[if_pos hf];exact decide_eq_false (by rw[HN.out];omega)
   rw[e1,e2]
   clear e1 e2 hf
   show Calls prog 220 #[_,.agg #[.string ys,.int .i64 yp,.int .i64 yt],_,_] w _
   go_enter func220,ntmps220
   go_wp2_with (first
    |(go_at_call 136;refine(HC.out _ (H.out.below (aB bR _))).mono ?_;rintro e w1 ⟨A1,c1,rfl,hown,hbel⟩;have HB:Hid (Below w.heap.size w w1):=aD (aB bR _) hbel;clear hown hbel)
    |(go_at_call 217;refine(HI.out _ HB.out).mono ?_;rintro e w2 ⟨rfl,hbel⟩;have HB2:Hid (Below w.heap.size w w2):=aD HB.out hbel;clear hbel))
   go_ret2
   exact⟨none,0,rfl,En.Own.none_ _ _ _,HB2.out⟩
  ·have e1:cY so (⟨ys,yp,yt⟩:eG) most xs=xs++[⟨ys,yp,yt⟩]:=by unfold cY;rw[if_pos hf,if_neg (by rw[HN.out];exact hr)]
   have e2:gX so most xs=true:=by unfold gX;rw[if_pos hf];exact decide_eq_true (by rw[HN.out];omega)
   rw[e1,e2]
   clear e1 e2 hf
   show Calls prog 220 #[_,.agg #[.string ys,.int .i64 yp,.int .i64 yt],_,_] w _
   go_enter func220,ntmps220
   go_wp2_with (first
    |(go_at_call 136;refine(HC.out _ (H.out.below (aB bR _))).mono ?_;rintro e w1 ⟨A1,c1,rfl,hown,hbel⟩;have HO:=Hd hown;have HB:Hid (Below w.heap.size w w1):=aD (aB bR _) hbel;have q0:=aC hbel (aS w #[.string ys,.int .i64 yp,.int .i64 yt] 249 0);have q1:=aC hbel (aS w #[.string ys,.int .i64 yp,.int .i64 yt] 249 1);have q2:=aC hbel (aS w #[.string ys,.int .i64 yp,.int .i64 yt] 249 2);clear hown hbel)
    |(go_at_call 217;refine(HI.out _ HB.out).mono ?_;rintro e w2 ⟨rfl,hbel⟩;have HO2:=Hd (HO.out.below hbel);have HB2:Hid (Below w.heap.size w w2):=aD HB.out hbel;have p0:=aC hbel q0;have p1:=aC hbel q1;have p2:=aC hbel q2;clear hbel q0 q1 q2)
    |(at_builtin;refine aV dL _ rfl _ _ 139 rfl w.heap.size 249 i0 _ 32 underlying139 hi iz isz iby rfl A1 c1 n xs rfl HN.out.symm ?own (some ⟨w2.heap.size,0,none⟩) 1 1 [⟨ys,yp,yt⟩] rfl rfl ?at_ ?m1 ?m2 ?m3 ?_))
   case own=>exact(HO2.out.below (aB bR _)).lower (by simp)
   case at_=>exact(En.Own.lit dL w2 w2.heap.size 249 #[.string ys,.int .i64 yp,.int .i64 yt] [⟨ys,yp,yt⟩] nR (by simp) rfl).at_
   case m1=>rw[HN.out];simp;omega
   case m2=>rw[HN.out];simp;omega
   case m3=>have:=HB2.out.size;simp;omega
   intro A3 c3 w3 hown hg hat
   have HO3:=Hd hown
   have HG:=Hd hg
   clear hown hg hat
   go_wp2
   go_ret2
   exact⟨A3,c3,by simp,HO3.out,bV (aB HB2.out _) HG.out (fun q hq=>by have:=(HO2.out.row q hq).1;simp at this;omega)⟩
 ·obtain⟨k,x,hk,hx,_⟩:=sI hf
  have e1:cY so (⟨ys,yp,yt⟩:eG) most xs=xs.set k ⟨ys,yp,yt⟩:=by unfold cY;rw[if_neg hf,hk];rfl
  have e2:gX so most xs=true:=by unfold gX;rw[if_neg hf]
  rw[hk] at HI
  rw[e1,e2]
  have e3:(xs.set k (⟨ys,yp,yt⟩:eG)).length=n:=by rw[List.length_set];exact HN.out
  rw[e3]
  have hkn:k<n:=by rw[←HN.out];exact(List.getElem?_eq_some_iff.1 hx).1
  have HX:=Hd hx
  clear e1 e2 e3 hf hk hx
  show Calls prog 220 #[_,.agg #[.string ys,.int .i64 yp,.int .i64 yt],_,_] w _
  go_enter func220,ntmps220
  go_wp2_with (first
   |(go_at_call 136;refine(HC.out _ (H.out.below (aB bR _))).mono ?_;rintro e w1 ⟨A1,c1,rfl,hown,hbel⟩;have HO:=Hd hown;have HB:Hid (Below w.heap.size w w1):=aD (aB bR _) hbel;have q0:=aC hbel (aS w #[.string ys,.int .i64 yp,.int .i64 yt] 249 0);have q1:=aC hbel (aS w #[.string ys,.int .i64 yp,.int .i64 yt] 249 1);have q2:=aC hbel (aS w #[.string ys,.int .i64 yp,.int .i64 yt] 249 2);clear hown hbel)
   |(go_at_call 217;refine(HI.out _ HB.out).mono ?_;rintro e w2 ⟨rfl,hbel⟩;have HO2:=Hd (HO.out.below hbel);have HB2:Hid (Below w.heap.size w w2):=aD HB.out hbel;have p0:=aC hbel q0;have p1:=aC hbel q1;have p2:=aC hbel q2;obtain⟨g,rfl,hge,hlt,r0,r1,r2⟩:=aHh HO2.out k _ HX.out;have f0:=HO2.out.free (k * 3);have f1:=HO2.out.free (k * 3+1);have f2:=HO2.out.free (k * 3+2);have hne:g≠w.heap.size:=(by simp at hge;omega);have hne2:w.heap.size≠g:=(by simp at hge;omega);clear hbel q0 q1 q2))
  go_ret2
  refine⟨some ⟨g,0,none⟩,c1,rfl,?_,?_⟩
  ·exact(aHe HO2.out k x ⟨ys,yp,yt⟩ HX.out).lower (by simp)
  ·have hgw:w.heap.size≤g:=by simp at hge;omega
   exact aH (aH (aH (HB2.out) hgw _) hgw _) hgw _
theorem vI {w:World} {A:Option Addr} {c:Nat} {xs:List fA} (h:dN.At w A c xs) (k:Nat) (x:fA) (hx:xs[k]?=some x):
 ∃b off,A=some ⟨b,off,none⟩∧b<w.heap.size∧w.cell? ⟨b,off+k * 2,none⟩=some (.string x.s)∧w.cell? ⟨b,off+k * 2+1,none⟩=some (.int .i64 x.n):=by
 obtain⟨b,off,hA,hlt,hc⟩:=h.get k x hx
 exact⟨b,off,hA,hlt,hc 0 (by decide),hc 1 (by decide)⟩
theorem aHg {w:World} {base:Nat} {A:Option Addr} {c:Nat} {xs:List fA} (h:dN.Own 239 w base A c xs) (k:Nat) (x:fA) (hx:xs[k]?=some x):
 ∃g,A=some ⟨g,0,none⟩∧base≤g∧g<w.heap.size∧w.cell? ⟨g,k * 2,none⟩=some (.string x.s)∧w.cell? ⟨g,k * 2+1,none⟩=some (.int .i64 x.n):=by
 obtain⟨g,off,rfl,hlt,h0,h1⟩:=vI h.at_ k x hx
 obtain⟨rfl,hge,_⟩:=lB h
 rw[Nat.zero_add] at h0 h1
 exact⟨g,rfl,hge,hlt,h0,h1⟩
theorem aA2 (w:World):Calls prog 131 #[.slice none 0 0] w (eV dN 239 w [] 0):=by
 have heq:=fun W a n c=>Lib.run_eql_slice_nil (P:=prog) W 68 239 a n c 0 0 underlying68
 go_enter func131,ntmps131
 go_wp2
 go_ret
 exact⟨none,0,rfl,En.Own.none_ _ _ _,bR⟩
theorem xR (a:Addr) (c n:Nat) (xs:List fA) (hn:xs.length=n) (w:World) (h:dN.At w (some a) c xs) (hb:n * 24≤140737488355328):Calls prog 131 #[.slice (some a) n c] w (eV dN 239 w xs n):=by
 subst hn
 obtain⟨i0,hi,hz0,hz1,hz2⟩:=info_parts aH4
 have heq:=fun W a n c=>Lib.run_eql_slice_nil (P:=prog) W 68 239 a n c 0 0 underlying68
 have H:=Hd h
 clear h
 have hbel:Hid (Below w.heap.size w (w.alloc (.cells #[] 239))):=bR.alloc nR _
 go_enter func131,ntmps131
 go_wp2_with (at_builtin;refine aV dN _ rfl _ _ 68 rfl w.heap.size 239 i0 _ 24 underlying68 hi hz0 hz1 hz2 rfl (some ⟨w.heap.size,0,none⟩) 0 0 [] rfl rfl ?own (some a) c xs.length xs rfl rfl ?at_ ?m1 ?m2 ?m3 ?_)
 case own=>exact En.Own.lit dN w w.heap.size 239 #[] [] nR (Nat.zero_le _) rfl
 case at_=>exact H.out.below hbel.out
 case m1=>simp only[List.length_nil];omega
 case m2=>simp only[List.length_nil];omega
 case m3=>simp
 intro A' c' w' hown hg hat
 have HO:=Hd hown
 have HG:=Hd hg
 clear hown hg hat
 go_wp2
 go_ret
 exact⟨A',c',rfl,HO.out,hbel.out.grown HG.out (by simp) (fun k hk=>by simp[Value.ownBlock] at hk;omega)⟩
theorem aA3 (A:Option Addr) (c n:Nat) (xs:List fA) (hn:xs.length=n) (w:World) (h:dN.At w A c xs) (hb:n * 24≤140737488355328):Calls prog 131 #[.slice A n c] w (eV dN 239 w xs n):=by
 cases A with
 |none=>
  have hc:=h.nil rfl
  subst hc
  have hx:=List.eq_nil_of_length_eq_zero (Nat.le_zero.1 h.le)
  subst hx
  subst hn
  exact aA2 w
 |some a=>exact xR a c n xs hn w h hb
theorem wY (A:Option Addr) (c n:Nat) (xs:List fA) (hn:xs.length=n) (so:fA→Bool) (f:Nat) (K:Array Value) (w:World) (e2:Ent f) (h:dN.At w A c xs)
 (hm:∀x W,Below w.heap.size w W→Calls prog f (#[x.val]++K) W (Ret (.bool (so x)) W)):
 Calls prog 130 #[.slice A n c,.func (.func f) #[] K] w (Ret (.int .i64 (fI so xs)) w):=by
 have H:=Hd h
 have hle:n≤c:=by rw[←hn];exact h.le
 have hmax:=h.max
 have HN:=Hd hn
 have HM:=Hd hm
 have he2:∀args W,(callFunc f args).run prog W=.ok (.enter f args) W:=e2
 clear h hn hm e2
 go_enter func130,ntmps130
 go_wp2
 go_loopw [8] (fun iv wr=>∃k:Nat,k≤n∧iv=.int .i64 k∧Hid (∀j y,j<k→xs[j]?=some y→so y=false)∧Hid (Below w.heap.size w wr)) (fun iv _=>n-(intOf iv).toNat)
 case atStart=>exact⟨0,Nat.zero_le _,rfl,(fun j y hj=>absurd hj (Nat.not_lt_zero _)),bR⟩
 case round=>
  obtain⟨k,hk,rfl,HB,HL⟩:=hrel
  by_cases hlt:k<n
  ·have hx:xs[k]?=some (xs[k]'(by have:=HN.out;omega)):=gE _
   obtain⟨b,off,rfl,hbl,c0,c1⟩:=vI (H.out.below HL.out) k _ hx
   generalize xs[k]'(by have:=HN.out;omega)=x at c0 c1 hx
   have HX:=Hd hx
   clear hx
   have HM2:=Hd (HM.out x wr HL.out)
   cases hb:so x with
   |false=>
    rw[hb] at HM2
    have HN2:=Hd hb
    clear hb
    go_wp2_with fail
    refine HM2.out.mono ?_
    rintro e w2 ⟨rfl,hbel⟩
    have HB2:=Hd hbel
    clear hbel
    go_wp2_with fail
    go_roundw
    case rel=>exact⟨k+1,by omega,by go_num,Hd (mJ HX.out HN2.out HB.out),aD HL.out HB2.out⟩
    case measure=>simp[intOf];omega
   |true=>
    rw[hb] at HM2
    have HE:=Hd (pM HX.out hb HB.out)
    clear hb
    go_wp2_with fail
    refine HM2.out.mono ?_
    rintro e w2 ⟨rfl,hbel⟩
    have HB2:=Hd hbel
    clear hbel
    go_wp2_with fail
    go_ret
    exact⟨kD HE.out.symm,aD HL.out HB2.out⟩
  ·obtain rfl:k=n:=by omega
   have HE:=Hd (jW (p:=so) (xs:=xs) (fun j y hj hy=>HB.out j y (by have:=HN.out;omega) hy))
   go_wp2
   go_ret
   exact⟨kD HE.out.symm,HL.out⟩
theorem aHd {w:World} {base g c:Nat} {xs:List fA} (h:dN.Own 239 w base (some ⟨g,0,none⟩) c xs) (k:Nat) (x y:fA) (hx:xs[k]?=some x):
 dN.Own 239 (((w.setCell ⟨g,k * 2,none⟩ (.string y.s)).setCell ⟨g,k * 2+1,none⟩ (.int .i64 y.n))) base (some ⟨g,0,none⟩) c (xs.set k y):=by
 have hk:=(List.getElem?_eq_some_iff.1 hx).1
 have z0:=gY h k _ (⟨y.s,x.n⟩:fA) hx 0 (by decide) (.string y.s) rfl
 have z1:=gY z0 k _ (⟨y.s,y.n⟩:fA) (List.getElem?_set_self (by first|exact hk|(simp only[List.length_set];exact hk))) 1 (by decide) (.int .i64 y.n) rfl
 simp only[List.set_set] at z1
 exact z1
theorem aCq (A:Option Addr) (c n most:Nat) (xs:List fA) (hn:xs.length=n) (y:fA) (so:fA→Bool) (f:Nat) (K:Array Value) (w:World) (e2:Ent f) (h:dN.At w A c xs) (hb:n * 24≤140737488355328) (hmo:most≤1000)
 (hm:∀x W,Below w.heap.size w W→Calls prog f (#[x.val]++K) W (Ret (.bool (so x)) W)):
 Calls prog 132 #[.slice A n c,y.val,.int .i64 most,.func (.func f) #[] K] w (yG dN 239 w (cY so y most xs) (cY so y most xs).length (gX so most xs)):=by
 obtain⟨i0,hi,iz,isz,iby⟩:=info_parts aH4
 have H:=Hd h
 have hle:n≤c:=by rw[←hn];exact h.le
 have hmax:=h.max
 have HC:=Hd (fun W hW=>aA3 A c n xs hn W hW hb)
 have HI:=Hd (fun W (hW:Below w.heap.size w W)=>wY A c n xs hn so f K W e2 (h.below hW) (fun x W2 hW2=>hm x W2 (aD hW hW2)))
 have HN:=Hd hn
 clear h hn hm e2
 obtain⟨ys,yn⟩:=y
 by_cases hf:fI so xs=-1
 ·rw[hf] at HI
  by_cases hr:most≤n
  ·have e1:cY so (⟨ys,yn⟩:fA) most xs=[]:=by unfold cY;rw[if_pos hf,if_pos (by rw[HN.out];exact hr)]
   have e2:gX so most xs=false:=by unfold gX;rw[if_pos hf];exact decide_eq_false (by rw[HN.out];omega)
   rw[e1,e2]
   clear e1 e2 hf
   show Calls prog 132 #[_,.agg #[.string ys,.int .i64 yn],_,_] w _
   go_enter func132,ntmps132
   go_wp2_with (first
    |(go_at_call 131;refine(HC.out _ (H.out.below (aB bR _))).mono ?_;rintro e w1 ⟨A1,c1,rfl,hown,hbel⟩;have HB:Hid (Below w.heap.size w w1):=aD (aB bR _) hbel;clear hown hbel)
    |(go_at_call 130;refine(HI.out _ HB.out).mono ?_;rintro e w2 ⟨rfl,hbel⟩;have HB2:Hid (Below w.heap.size w w2):=aD HB.out hbel;clear hbel))
   go_ret2
   exact⟨none,0,rfl,En.Own.none_ _ _ _,HB2.out⟩
  ·have e1:cY so (⟨ys,yn⟩:fA) most xs=xs++[⟨ys,yn⟩]:=by unfold cY;rw[if_pos hf,if_neg (by rw[HN.out];exact hr)]
   have e2:gX so most xs=true:=by unfold gX;rw[if_pos hf];exact decide_eq_true (by rw[HN.out];omega)
   rw[e1,e2]
   clear e1 e2 hf
   show Calls prog 132 #[_,.agg #[.string ys,.int .i64 yn],_,_] w _
   go_enter func132,ntmps132
   go_wp2_with (first
    |(go_at_call 131;refine(HC.out _ (H.out.below (aB bR _))).mono ?_;rintro e w1 ⟨A1,c1,rfl,hown,hbel⟩;have HO:=Hd hown;have HB:Hid (Below w.heap.size w w1):=aD (aB bR _) hbel;have q0:=aC hbel (aS w #[.string ys,.int .i64 yn] 239 0);have q1:=aC hbel (aS w #[.string ys,.int .i64 yn] 239 1);clear hown hbel)
    |(go_at_call 130;refine(HI.out _ HB.out).mono ?_;rintro e w2 ⟨rfl,hbel⟩;have HO2:=Hd (HO.out.below hbel);have HB2:Hid (Below w.heap.size w w2):=aD HB.out hbel;have p0:=aC hbel q0;have p1:=aC hbel q1;clear hbel q0 q1)
    |(at_builtin;refine aV dN _ rfl _ _ 68 rfl w.heap.size 239 i0 _ 24 underlying68 hi iz isz iby rfl A1 c1 n xs rfl HN.out.symm ?own (some ⟨w2.heap.size,0,none⟩) 1 1 [⟨ys,yn⟩] rfl rfl ?at_ ?m1 ?m2 ?m3 ?_))
   case own=>exact(HO2.out.below (aB bR _)).lower (by simp)
   case at_=>exact(En.Own.lit dN w2 w2.heap.size 239 #[.string ys,.int .i64 yn] [⟨ys,yn⟩] nR (by simp) rfl).at_
   case m1=>rw[HN.out];simp;omega
   case m2=>rw[HN.out];simp;omega
   case m3=>have:=HB2.out.size;simp;omega
   intro A3 c3 w3 hown hg hat
   have HO3:=Hd hown
   have HG:=Hd hg
   clear hown hg hat
   go_wp2
   go_ret2
   exact⟨A3,c3,by simp,HO3.out,bV (aB HB2.out _) HG.out (fun q hq=>by have:=(HO2.out.row q hq).1;simp at this;omega)⟩
 ·obtain⟨k,x,hk,hx,_⟩:=sI hf
  have e1:cY so (⟨ys,yn⟩:fA) most xs=xs.set k ⟨ys,yn⟩:=by unfold cY;rw[if_neg hf,hk];rfl
  have e2:gX so most xs=true:=by unfold gX;rw[if_neg hf]
  rw[hk] at HI
  rw[e1,e2]
  have e3:(xs.set k (⟨ys,yn⟩:fA)).length=n:=by rw[List.length_set];exact HN.out
  rw[e3]
  have hkn:k<n:=by rw[←HN.out];exact(List.getElem?_eq_some_iff.1 hx).1
  have HX:=Hd hx
  clear e1 e2 e3 hf hk hx
  show Calls prog 132 #[_,.agg #[.string ys,.int .i64 yn],_,_] w _
  go_enter func132,ntmps132
  go_wp2_with (first
   |(go_at_call 131;refine(HC.out _ (H.out.below (aB bR _))).mono ?_;rintro e w1 ⟨A1,c1,rfl,hown,hbel⟩;have HO:=Hd hown;have HB:Hid (Below w.heap.size w w1):=aD (aB bR _) hbel;have q0:=aC hbel (aS w #[.string ys,.int .i64 yn] 239 0);have q1:=aC hbel (aS w #[.string ys,.int .i64 yn] 239 1);clear hown hbel)
   |(go_at_call 130;refine(HI.out _ HB.out).mono ?_;rintro e w2 ⟨rfl,hbel⟩;have HO2:=Hd (HO.out.below hbel);have HB2:Hid (Below w.heap.size w w2):=aD HB.out hbel;have p0:=aC hbel q0;have p1:=aC hbel q1;obtain⟨g,rfl,hge,hlt,r0,r1⟩:=aHg HO2.out k _ HX.out;have f0:=HO2.out.free (k * 2);have f1:=HO2.out.free (k * 2+1);have hne:g≠w.heap.size:=(by simp at hge;omega);have hne2:w.heap.size≠g:=(by simp at hge;omega);clear hbel q0 q1))
  go_ret2
  refine⟨some ⟨g,0,none⟩,c1,rfl,?_,?_⟩
  ·exact(aHd HO2.out k x ⟨ys,yn⟩ HX.out).lower (by simp)
  ·have hgw:w.heap.size≤g:=by simp at hge;omega
   exact aH (aH (HB2.out) hgw _) hgw _
theorem aOj:Ent 278:=fun args w=>by simp[callFunc,func278];rfl
theorem aOk:Ent 129:=fun args w=>by simp[callFunc,func129];rfl
def AtS (w:World) (B:Nat) (s:ByteArray):Prop:=w.cell? ⟨B,0,none⟩=some (.string s)
theorem AtS.below {w w':World} {B:Nat} {n:ByteArray} (h:AtS w B n) (hb:Below w.heap.size w w'):AtS w' B n:=aC hb h
theorem AtS.lt {w:World} {B:Nat} {n:ByteArray} (h:AtS w B n):B<w.heap.size:=bL w _ h
def At1 (w:World) (B:Nat) (n:Int):Prop:=w.cell? ⟨B,0,none⟩=some (.int .i64 n)
theorem At1.below {w w':World} {B:Nat} {n:Int} (h:At1 w B n) (hb:Below w.heap.size w w'):At1 w' B n:=aC hb h
theorem At1.lt {w:World} {B:Nat} {n:Int} (h:At1 w B n):B<w.heap.size:=bL w _ h
def soS (s:ByteArray) (x:eG):Bool:=eqS x.s s
def soN (s:ByteArray) (x:fA):Bool:=eqS x.s s
theorem aBt (x:eG) (s:ByteArray) (B:Nat) (w:World) (h:AtS w B s):Calls prog 278 #[x.val,.pointer (some ⟨B,0,none⟩)] w (Ret (.bool (soS s x)) w):=by
 obtain⟨xs,xp,xt⟩:=x
 have hlt:=h.lt
 have hne:B≠w.heap.size:=by omega
 have hc:w.cell? ⟨B,0,none⟩=some (.string s):=h
 clear h
 show Calls prog 278 #[.agg #[.string xs,.int .i64 xp,.int .i64 xt],_] w (Ret (.bool (xs.toList==s.toList)) w)
 go_enter func278,ntmps278
 go_wp2
 go_ret
 exact⟨rfl,aB bR _⟩
theorem aB3 (x:fA) (s:ByteArray) (B:Nat) (w:World) (h:AtS w B s):Calls prog 129 #[x.val,.pointer (some ⟨B,0,none⟩)] w (Ret (.bool (soN s x)) w):=by
 obtain⟨xs,xn⟩:=x
 have hlt:=h.lt
 have hne:B≠w.heap.size:=by omega
 have hc:w.cell? ⟨B,0,none⟩=some (.string s):=h
 clear h
 show Calls prog 129 #[.agg #[.string xs,.int .i64 xn],_] w (Ret (.bool (xs.toList==s.toList)) w)
 go_enter func129,ntmps129
 go_wp2
 go_ret
 exact⟨rfl,aB bR _⟩
def OfP (s:ByteArray) (w:World) (e:Ending) (w':World):Prop:=∃B,e=.returned (.func (.func 278) #[] #[.pointer (some ⟨B,0,none⟩)])∧AtS w' B s∧w.heap.size≤B∧Below w.heap.size w w'
theorem zM (s:ByteArray) (w:World):Calls prog 218 #[.string s] w (OfP s w):=by
 go_enter func218,ntmps218
 go_wp2
 go_ret
 exact⟨w.heap.size,rfl,aS w #[.string s] 9 0,nR,aB bR _⟩
def cD (x:Int):Int:=if x<0 then 0 else if 1099511627776<x then 1099511627776 else x
theorem jG (x:Int):0≤cD x∧cD x≤1099511627776:=by unfold cD;split <;> (try split) <;> omega
def iZ (t b:Int):Int:=if 1099511627776<cD t+cD b then 1099511627776 else cD t+cD b
theorem aOw (x:Int) (w:World):Calls prog 37 #[.int .i64 x,.int .i64 0,.int .i64 1099511627776] w fun e w'=>e=.returned (.int .i64 (cD x))∧w=w':=by
 by_cases h:x<0
 ·rw[show cD x=0 from if_pos h]
  go_enter func37,ntmps37
  go_wp2
  go_ret
  exact⟨rfl,rfl⟩
 ·by_cases h':1099511627776<x
  ·rw[show cD x=1099511627776 by unfold cD;rw[if_neg h,if_pos h']]
   go_enter func37,ntmps37
   go_wp2
   go_ret
   exact⟨rfl,rfl⟩
  ·rw[show cD x=x by unfold cD;rw[if_neg h,if_neg h']]
   by_cases h0:x=0
   ·subst h0
    go_enter func37,ntmps37
    go_wp2
    go_ret
    exact⟨rfl,rfl⟩
   ·have h1:0<x:=by omega
    go_enter func37,ntmps37
    go_wp2
    go_ret
    exact⟨rfl,rfl⟩
theorem iL (a b:Int) (w:World):Calls prog 68 #[.int .i64 a,.int .i64 b] w fun e w'=>e=.returned (.int .i64 (iZ a b))∧w=w':=by
 have ha:=jG a
 have hb:=jG b
 go_enter func68,ntmps68
 go_wp2_with (first|(go_at_call 37;refine(aOw _ _).mono ?_;rintro e w' ⟨rfl,rfl⟩))
 all_goals go_ret
 all_goals refine⟨kD ?_,rfl⟩
 all_goals show _=iZ a b
 all_goals unfold iZ
 ·rw[if_pos (by assumption)]
 ·rw[if_neg (by omega)]
end Go.Proofs.YtlibhkkckgkkkaaGreatDoor.Boo
namespace Go.Proofs.YtlibhkkckgkkkaaGreatDoor.Boo
open Go.RowKit Go.Proofs.YtlibhkkckgkkkaaGreatDoor.Mem
theorem aP {b B:Nat} {w W:World} (h:Below B w W) (hb:b≤B):Below b w W:=⟨h.os,h.tape,h.output,h.size,fun k hk=>h.block k (by omega)⟩
theorem aIr {α:Type} {p:α→Bool} {xs:List α} {k:Nat} (h:fI p xs=k):∃x,xs[k]?=some x∧p x=true∧∀i y,i<k→xs[i]?=some y→p y=false:=by
 unfold fI at h
 cases hf:xs.findIdx? p with
 |none=>rw[hf] at h;simp at h
 |some i=>
  rw[hf] at h
  obtain⟨hi,hp,hb⟩:=List.findIdx?_eq_some_iff_getElem.1 hf
  have e:i=k:=by have h':(i:Int)=k:=h;omega
  subst e
  refine⟨_,gE hi,hp,fun j y hj hy=>?_⟩
  have:=hb j hj
  rw[gE (by omega)] at hy
  injection hy with hy
  rw[hy] at this
  simpa using this
theorem aP4 {α:Type} {p:α→Bool} {xs:List α} (h:fI p xs=-1):∀x∈xs,p x=false:=by
 unfold fI at h
 cases hf:xs.findIdx? p with
 |none=>simpa using List.findIdx?_eq_none_iff.1 hf
 |some i=>rw[hf] at h;simp at h
def kept {α:Type} (so:α→Bool) (xs:List α) (j:Nat):List α:=(xs.take j).filter fun x=>!so x
section
variable {α:Type} {so:α→Bool} {xs:List α} {j k:Nat} {x:α}
end
def aKt {α:Type} (d:En α) (B:Nat) (w:World) (xs:List α) (n:Nat) (r:Ending) (w':World):Prop:=∃A c,r=.returned (.slice A n c)∧d.At w' A c xs∧Below B w w'
end Go.Proofs.YtlibhkkckgkkkaaGreatDoor.Boo
namespace Go.Proofs.YtlibhkkckgkkkaaGreatDoor.Boo
open Go.RowKit Go.Proofs.YtlibhkkckgkkkaaGreatDoor.Mem Go.Proofs.Tryz
def okP (s:ByteArray) (p t:Int):Bool:=aZ s&&decide (1≤p∧p≤1000000000000∧0≤t∧t≤1099511627776)
def putX (s:ByteArray) (p t:Int) (xs:List eG):List eG:=if okP s p t then cY (soS s) ⟨s,p,t⟩ 8 xs else[]
def putE (s:ByteArray) (p t:Int) (xs:List eG):Int:=if okP s p t then(if gX (soS s) 8 xs then 0 else 50) else 1
def aKs (w:World) (xs:List eG) (n:Nat) (e:Int) (r:Ending) (w':World):Prop:=∃A c,r=.returned (.tuple #[.slice A n c,.int .i64 e])∧dL.At w' A c xs∧Below w.heap.size w w'
theorem aLk {α:Type} {so:α→Bool} {y:α} {m:Nat} {xs:List α} (h:gX so m xs=false):cY so y m xs=[]:=by
 unfold gX at h
 unfold cY
 split at h
 ·rename_i h'
  rw[if_pos h',if_pos (by simpa using h)]
 ·cases h
theorem aLj (A:Option Addr) (c n:Nat) (s:ByteArray) (p t:Int) (w:World) (hs:s.size≤9223372036854775807) (hk:okP s p t=false):
 Calls prog 134 #[.slice A n c,.string s,.int .i64 p,.int .i64 t] w (aKs w [] 0 1):=by
 have HN:=Hd (fun W=>eB s W hs)
 unfold okP at hk
 cases hn:aZ s with
 |false=>
  rw[hn] at HN
  clear hk hn hs
  go_enter func134,ntmps134
  go_wp2_with (go_at_call 60;refine(HN.out _).mono ?_;rintro e w1 ⟨rfl,hbel⟩;have HB:=Hd hbel;clear hbel)
  go_ret2
  exact⟨none,0,rfl,En.At.none_,HB.out⟩
 |true=>
  rw[hn] at HN
  rw[hn,Bool.true_and,decide_eq_false_iff_not] at hk
  clear hn hs
  by_cases g0:p<1
  ·clear hk
   go_enter func134,ntmps134
   go_wp2_with (go_at_call 60;refine(HN.out _).mono ?_;rintro e w1 ⟨rfl,hbel⟩;have HB:=Hd hbel;clear hbel)
   go_ret2
   exact⟨none,0,rfl,En.At.none_,HB.out⟩
  by_cases g1:1000000000000<p
  ·clear hk
   go_enter func134,ntmps134
   go_wp2_with (go_at_call 60;refine(HN.out _).mono ?_;rintro e w1 ⟨rfl,hbel⟩;have HB:=Hd hbel;clear hbel)
   go_ret2
   exact⟨none,0,rfl,En.At.none_,HB.out⟩
  by_cases g2:t<0
  ·clear hk
   go_enter func134,ntmps134
   go_wp2_with (go_at_call 60;refine(HN.out _).mono ?_;rintro e w1 ⟨rfl,hbel⟩;have HB:=Hd hbel;clear hbel)
   go_ret2
   exact⟨none,0,rfl,En.At.none_,HB.out⟩
  by_cases g3:1099511627776<t
  ·clear hk
   go_enter func134,ntmps134
   go_wp2_with (go_at_call 60;refine(HN.out _).mono ?_;rintro e w1 ⟨rfl,hbel⟩;have HB:=Hd hbel;clear hbel)
   go_ret2
   exact⟨none,0,rfl,En.At.none_,HB.out⟩
  exact absurd ⟨by omega,by omega,by omega,by omega⟩ hk
theorem aGt (A:Option Addr) (c n:Nat) (xs:List eG) (hn:xs.length=n) (s:ByteArray) (p t:Int) (w:World) (h:dL.At w A c xs) (hb:n * 32≤140737488355328) (hs:s.size≤9223372036854775807) (hk:okP s p t=true) (b:Bool) (hbb:gX (soS s) 8 xs=b):
 Calls prog 134 #[.slice A n c,.string s,.int .i64 p,.int .i64 t] w (aKs w (cY (soS s) ⟨s,p,t⟩ 8 xs) (cY (soS s) ⟨s,p,t⟩ 8 xs).length (if b then 0 else 50)):=by
 have HN:=Hd (fun W=>eB s W hs)
 unfold okP at hk
 rw[Bool.and_eq_true,decide_eq_true_iff] at hk
 obtain⟨hn1,g0,g1,g2,g3⟩:=hk
 rw[hn1] at HN
 have H:=Hd h
 have HW:=Hd (fun(B:Nat) (W:World) (hS:AtS W B s) (hA:dL.At W A c xs)=>tC A c n 8 xs hn ⟨s,p,t⟩ (soS s) 278 #[.pointer (some ⟨B,0,none⟩)] W aOj hA hb (by decide) (fun x W' hW=>aBt x s B W' (hS.below hW)))
 rw[hbb] at HW
 have hg0:¬(p<1):=by omega
 have hg1:¬(1000000000000<p):=by omega
 have hg2:¬(t<0):=by omega
 have hg3:¬(1099511627776<t):=by omega
 cases b with
 |false=>
  rw[aLk hbb] at HW ⊢
  clear h hn hn1 hs hbb
  go_enter func134,ntmps134
  go_wp2_with (first
   |(go_at_call 60;refine(HN.out _).mono ?_;rintro e w1 ⟨rfl,hbel⟩;have HB:=Hd hbel;have HA:=Hd (H.out.below hbel);clear hbel)
   |(go_at_call 218;refine(zM s _).mono ?_;rintro e w2 ⟨B,rfl,hs,hge,hbel⟩;have HS:=Hd hs;have HB2:=Hd (aD HB.out hbel);have HA2:=Hd (HA.out.below hbel);clear hs hge hbel)
   |(go_at_call 220;refine(HW.out B _ HS.out HA2.out).mono ?_;rintro e w3 ⟨A3,c3,rfl,hown,hbel⟩;have HB3:=Hd (aD HB2.out hbel);clear hown hbel))
  go_ret2
  exact⟨none,0,rfl,En.At.none_,HB3.out⟩
 |true=>
  clear h hn hn1 hs hbb
  go_enter func134,ntmps134
  go_wp2_with (first
   |(go_at_call 60;refine(HN.out _).mono ?_;rintro e w1 ⟨rfl,hbel⟩;have HB:=Hd hbel;have HA:=Hd (H.out.below hbel);clear hbel)
   |(go_at_call 218;refine(zM s _).mono ?_;rintro e w2 ⟨B,rfl,hs,hge,hbel⟩;have HS:=Hd hs;have HB2:=Hd (aD HB.out hbel);have HA2:=Hd (HA.out.below hbel);clear hs hge hbel)
   |(go_at_call 220;refine(HW.out B _ HS.out HA2.out).mono ?_;rintro e w3 ⟨A3,c3,rfl,hown,hbel⟩;have HB3:=Hd (aD HB2.out hbel);have HO:=Hd hown.at_;clear hown hbel))
  go_ret2
  exact⟨A3,c3,rfl,HO.out,HB3.out⟩
theorem uP (A:Option Addr) (c n:Nat) (xs:List eG) (hn:xs.length=n) (s:ByteArray) (p t:Int) (w:World) (h:dL.At w A c xs) (hb:n * 32≤140737488355328) (hs:s.size≤9223372036854775807):
 Calls prog 134 #[.slice A n c,.string s,.int .i64 p,.int .i64 t] w (aKs w (putX s p t xs) (putX s p t xs).length (putE s p t xs)):=by
 unfold putX putE
 cases hk:okP s p t with
 |false=>exact aLj A c n s p t w hs hk
 |true=>exact aGt A c n xs hn s p t w h hb hs hk _ rfl
end Go.Proofs.YtlibhkkckgkkkaaGreatDoor.Boo
namespace Go.Proofs.YtlibhkkckgkkkaaGreatDoor.Boo
open Go.RowKit Go.Proofs.YtlibhkkckgkkkaaGreatDoor.Mem
theorem litF (w:World) (y:aW):dF.At (w.alloc (.cells #[.string y.s,.int .i64 y.p] 44)) (some ⟨w.heap.size,0,none⟩) 1 [y]:=
 (En.Own.lit dF w 0 44 #[.string y.s,.int .i64 y.p] [y] (Nat.zero_le _) (by simp) rfl).at_
def gS (xs:List eG):List aW:=xs.map fun x=>⟨x.s,x.p⟩
theorem aFw {xs:List eG} {k:Nat} {x:eG} (hx:xs[k]?=some x):gS (xs.take (k+1))=gS (xs.take k)++[⟨x.s,x.p⟩]:=by
 unfold gS
 rw[List.take_add_one,hx,List.map_append]
 rfl
theorem rU (A:Option Addr) (c n:Nat) (xs:List eG) (hn:xs.length=n) (w:World) (h:dL.At w A c xs) (hb:n * 32≤140737488355328):
 Calls Tryz.prog 71 #[.slice A n c] w (aKt dF w.heap.size w (gS xs) n):=by
 obtain⟨i0,hi,iz,isz,iby⟩:=info_parts zW
 have H:=Hd h
 have hle:n≤c:=by rw[←hn];exact h.le
 have hmax:=h.max
 have HN:=Hd hn
 clear h hn
 go_enter Tryz.func71,Tryz.ntmps71
 go_wp2
 go_loopw [2,7] (fun ov iv wr=>∃(k:Nat) (A':Option Addr) (c':Nat),k≤n∧iv=.int .i64 k∧ov=.slice A' k c'∧Hid (dF.Own 44 wr w.heap.size A' c' (gS (xs.take k)))∧Hid (Below w.heap.size w wr)) (fun _ iv _=>n-(intOf iv).toNat)
 case atStart=>exact⟨0,none,0,Nat.zero_le _,rfl,rfl,En.Own.none_ _ _ _,bR⟩
 case round=>
  obtain⟨k,A',c',hk,rfl,rfl,HO,HB⟩:=hrel
  by_cases hlt:k<n
  ·have hx:xs[k]?=some (xs[k]'(by have:=HN.out;omega)):=gE _
   obtain⟨b,off,rfl,hbl,c0,c1,c2⟩:=vJ (H.out.below HB.out) k _ hx
   generalize xs[k]'(by have:=HN.out;omega)=x at c0 c1 c2 hx
   have HT:=Hd (aFw hx)
   have hl:Hid ((gS (xs.take k)).length=k):=Hd (by unfold gS;rw[List.length_map,List.length_take,HN.out,Nat.min_eq_left (by omega)])
   clear hx
   go_wp2_with (at_builtin;refine aV dF _ rfl _ _ 29 rfl w.heap.size 44 i0 _ 24 Tryz.underlying29 hi iz isz iby rfl A' c' k (gS (xs.take k)) rfl hl.out.symm ?own _ 1 1 [⟨x.s,x.p⟩] rfl rfl ?at_ ?m1 ?m2 ?m3 ?_)
   case own=>exact HO.out.below (aB (aB bR _) _)
   case at_=>first|exact litF _ ⟨x.s,x.p⟩|(have:=litF (wr.alloc (.cells #[.string x.s,.int .i64 x.p,.int .i64 x.t] 249)) ⟨x.s,x.p⟩;simpa using this)
   case m1=>rw[hl.out];simp;omega
   case m2=>rw[hl.out];simp;omega
   case m3=>have:=HB.out.size;simp;omega
   intro A3 c3 w3 hown hg hat
   rw[hl.out]
   rw[←HT.out] at hown
   have HO3:=Hd hown
   have HG:=Hd (bV (aB (aB HB.out _) _) hg (fun q hq=>(HO.out.row q hq).1))
   clear hown hg hat
   go_wp2
   go_roundw
   case rel=>first|exact⟨k+1,A3,c3,by omega,by go_num,rfl,HO3,HG⟩|((repeat apply Exists.intro);exact⟨⟨k+1,A3,c3,by omega,by go_num,rfl,HO3,HG⟩,rfl⟩)
   case measure=>simp[intOf];omega
  ·obtain rfl:k=n:=by omega
   have HE:Hid (xs.take k=xs):=Hd (by rw[←HN.out,List.take_length])
   go_wp2
   go_ret
   exact⟨A',c',rfl,by rw[←HE.out];exact HO.out.at_,HB.out⟩
end Go.Proofs.YtlibhkkckgkkkaaGreatDoor.Boo
