/- Part of the proof of TopFeeds: AwL LexE ParA ParB ParC ParD ParE ParF ParG ParH ParI ParJ ParK TreA ParL. -/
import Derived.Test.YtlibhkkckgkkkaaGreatDoorZAF
import Derived.Test.YtlibhkkckgkkkaaGreatDoorZAT
set_option maxHeartbeats 4000000
set_option maxRecDepth 100000
namespace Go.Proofs.YtlibhkkckgkkkaaGreatDoor.Tf
open Go.RowKit Go.Proofs.YtlibhkkckgkkkaaGreatDoor.Mem Go.Proofs.YtlibhkkckgkkkaaGreatDoor.Boo Go.Proofs.Tryz
theorem aBm (W:World) (a:Addr) (f:Fn) (x y:Array Value):(store a (.func f x y)).run prog W=stored prog W a (.func f x y) .plain:=run_store prog W a _ .plain rfl
theorem wK (k:Int) (w:World):Calls prog 258 #[.int .i64 k] w fun e w'=>∃kb,e=.returned (.agg #[.int .i64 0,.func (.func 299) #[] #[.pointer (some ⟨kb,0,none⟩)]])∧w'.cell? ⟨kb,0,none⟩=some (.int .i64 k)∧Below w.heap.size w w':=by
 have hst:=fun(W:World) (a:Addr) (f:Fn) (x y:Array Value)=>aBm W a f x y
 go_enter func258,ntmps258
 go_wp2_with fail
 exact bodyPost_ret (v:=.agg #[.int .i64 0,.func (.func 299) #[] #[.pointer (some ⟨w.heap.size,0,none⟩)]]) (by simp[results,results258,go_sem, *]) rfl ⟨_,rfl,by go_simp,blw⟩
end Go.Proofs.YtlibhkkckgkkkaaGreatDoor.Tf
namespace Go.Proofs.YtlibhkkckgkkkaaGreatDoor.Tf
open Go.RowKit Go.Proofs.YtlibhkkckgkkkaaGreatDoor.Mem Go.Proofs.YtlibhkkckgkkkaaGreatDoor.Boo
def lexL (s:ByteArray):Except (Int×Int) (List Tok):=
 if 2000<s.size then .error (60,2000)
 else match (iD (s.size+1) s 0).find? (fun x=>!x.2) with
  |none=>.ok ((iD (s.size+1) s 0).map Prod.fst)
  |some x=>.error (61,x.1.a)
def aSc (w:World) (r:Except (Int×Int) (List Tok)) (e:Ending) (w':World):Prop:=match r with
 |.ok l=>LexR w l l.length 0 0 e w'
 |.error (er,at_)=>LexR w [] 0 er at_ e w'
theorem aHu (s:ByteArray) (h:2000<s.size) (w:World):Calls Tryz.prog 39 #[.string s] w (LexR w [] 0 60 2000):=by
 have g1:2000<(s.size:Int):=by omega
 clear h
 go_enter Tryz.func39,Tryz.ntmps39
 go_wp2
 refine bodyPost_ret (v:=.tuple #[.slice none 0 0,.int .i64 60,.int .i64 2000]) (by simp[results,Tryz.results39,go_sem]) rfl ⟨none,0,rfl,World.ownsRow_nil _ _ _ _,blw⟩
theorem aMl (s:ByteArray) (w:World) (G:Gl w):Calls Tryz.prog 39 #[.string s] w (aSc w (lexL s)):=by
 unfold lexL
 by_cases h:2000<s.size
 ·rw[if_pos h];exact aHu s h w
 ·rw[if_neg h]
  generalize hL:iD (s.size+1) s 0=L
  refine callsIn_wide.1 (aHt s (by omega) w G L (Hd hL.symm) _ (Lib.hid ?_) (Lib.hid ?_))
  ·intro hall e w' hr
   have hF:List.find? (fun x:Tok×Bool=>!x.2) L=none:=by
    rw[List.find?_eq_none]
    intro x hx
    rw[hall x hx];decide
   rw[hF]
   show LexR w _ (L.map Prod.fst).length 0 0 e w'
   rw[List.length_map]
   exact hr
  ·rintro pre x ⟨r,hr⟩ h1 h2 e w' hq
   have hF:List.find? (fun x:Tok×Bool=>!x.2) L=some x:=by
    rw[←hr,List.append_assoc,List.find?_append]
    have:List.find? (fun x:Tok×Bool=>!x.2) pre=none:=by
     rw[List.find?_eq_none]
     intro y hy
     rw[h1 y hy];decide
    rw[this]
    simp[h2]
   rw[hF]
   exact hq
end Go.Proofs.YtlibhkkckgkkkaaGreatDoor.Tf
namespace Go.Proofs.YtlibhkkckgkkkaaGreatDoor.Tf
open Go.RowKit Go.Proofs.YtlibhkkckgkkkaaGreatDoor.Mem Go.Proofs.YtlibhkkckgkkkaaGreatDoor.Boo Go.Proofs.Tryz
def aFl:List ByteArray:=[⟨#[]⟩,⟨#[108,111,119,101,115,116]⟩,⟨#[115,101,99,111,110,100]⟩,⟨#[102,114,111,109]⟩,⟨#[]⟩,⟨#[108,101,115,115]⟩,⟨#[99,117,116]⟩,⟨#[109,105,110]⟩,⟨#[109,97,120]⟩,⟨#[101,108,115,101]⟩,⟨#[105,102]⟩,⟨#[109,111,114,101]⟩,⟨#[97,98,111,118,101]⟩]
def aBv:List Int:=[0,0,0,0,1000000000000,1000000000000,100000,0,0,0,0,1000,0]
def yD:List Int:=[0,0,0,0,0,1,1,2,2,2,3,0,2]
def aY (k:Int):ByteArray:=if k<1∨13≤k then⟨#[]⟩ else aFl.getD k.toNat ⟨#[]⟩
def aO (k:Int):Int:=if k<1∨13≤k then 0 else aBv.getD k.toNat 0
def cH (k:Int):Int:=if k<1∨13≤k then 0 else yD.getD k.toNat 0
def qD (k:Int):Bool:=!(decide (k<1) || decide (13≤k))
abbrev mI:Array Value:=#[.string ⟨#[]⟩,.int .i64 0,.int .i64 0,.string ⟨#[108,111,119,101,115,116]⟩,.int .i64 0,.int .i64 0,.string ⟨#[115,101,99,111,110,100]⟩,.int .i64 0,.int .i64 0,.string ⟨#[102,114,111,109]⟩,.int .i64 0,.int .i64 0,.string ⟨#[]⟩,.int .i64 1000000000000,.int .i64 0,.string ⟨#[108,101,115,115]⟩,.int .i64 1000000000000,.int .i64 1,.string ⟨#[99,117,116]⟩,.int .i64 100000,.int .i64 1,.string ⟨#[109,105,110]⟩,.int .i64 0,.int .i64 2,.string ⟨#[109,97,120]⟩,.int .i64 0,.int .i64 2,.string ⟨#[101,108,115,101]⟩,.int .i64 0,.int .i64 2,.string ⟨#[105,102]⟩,.int .i64 0,.int .i64 3,.string ⟨#[109,111,114,101]⟩,.int .i64 1000,.int .i64 0,.string ⟨#[97,98,111,118,101]⟩,.int .i64 0,.int .i64 2]
theorem tQ (w:World):Calls prog 229 #[] w fun e w'=>e=.returned (.slice (some ⟨w.heap.size,0,none⟩) 13 13)∧w'=w.alloc (.cells mI 326):=by
 go_enter func229,ntmps229
 go_wp2
 go_ret
 exact⟨rfl,rfl⟩
def vN (w:World) (k:Int) (e:Ending) (w':World):Prop:=e=.returned (.tuple #[.string (aY k),.int .i64 (aO k),.int .i64 (cH k),.bool (qD k)])∧Below w.heap.size w w'
theorem aAe (k:Nat) (h:k<13):mI[k * 3]?=some (.string (aFl.getD k ⟨#[]⟩))∧mI[k * 3+1]?=some (.int .i64 (aBv.getD k 0))∧mI[k * 3+2]?=some (.int .i64 (yD.getD k 0)):=by
 rcases k with _|_|_|_|_|_|_|_|_|_|_|_|_|k
 all_goals first
  |exact⟨rfl,rfl,rfl⟩
  |omega
theorem aIl (k:Int) (hk:k<1∨13≤k) (w:World):Calls prog 161 #[.int .i64 k] w (vN w k):=by
 have HF:=Hd (fun W=>tQ W)
 have HW:Hid (aY k=⟨#[]⟩):=Hd (if_pos hk)
 have HM:Hid (aO k=0):=Hd (if_pos hk)
 have HA:Hid (cH k=0):=Hd (if_pos hk)
 have HO:Hid (qD k=false):=Hd (by unfold qD;rcases hk with h|h <;> simp[h])
 by_cases h1:k<1
 ·clear hk
  go_enter func161,ntmps161
  go_wp2_with (go_at_call 229;go_must (refine(HF.out _).mono ?_;rintro e W ⟨rfl,rfl⟩))
  refine bodyPost_ret (v:=.tuple #[.string ⟨#[]⟩,.int .i64 0,.int .i64 0,.bool false]) (by simp[results,results161,go_sem]) rfl ⟨by rw[HW.out,HM.out,HA.out,HO.out],aB bR _⟩
 ·have h2:13≤k:=by omega
  clear hk
  go_enter func161,ntmps161
  go_wp2_with (go_at_call 229;go_must (refine(HF.out _).mono ?_;rintro e W ⟨rfl,rfl⟩))
  refine bodyPost_ret (v:=.tuple #[.string ⟨#[]⟩,.int .i64 0,.int .i64 0,.bool false]) (by simp[results,results161,go_sem]) rfl ⟨by rw[HW.out,HM.out,HA.out,HO.out],aB bR _⟩
theorem aM7 (k:Nat) (h1:1≤k) (h2:k<13) (w:World):Calls prog 161 #[.int .i64 (k:Int)] w (vN w k):=by
 have HF:Hid (∀w,Calls prog 229 #[] w fun e w'=>e=.returned (.slice (some ⟨w.heap.size,0,none⟩) 13 13)∧∃b,b=w.heap.size∧Below b w w'∧w'.cell? ⟨b,k * 3,none⟩=some (.string (aY k))∧w'.cell? ⟨b,k * 3+1,none⟩=some (.int .i64 (aO k))∧w'.cell? ⟨b,k * 3+2,none⟩=some (.int .i64 (cH k))):=Hd (fun W=>by
  refine(tQ W).mono ?_
  rintro e w' ⟨he,rfl⟩
  have hn:¬((k:Int)<1∨13≤(k:Int)):=by omega
  obtain⟨c1,c2,c3⟩:=aAe k h2
  refine⟨he,_,rfl,aB bR _,?_,?_,?_⟩
  ·rw[aA (aN W _),c1,aY,if_neg hn,Int.toNat_natCast]
  ·rw[aA (aN W _),c2,aO,if_neg hn,Int.toNat_natCast]
  ·rw[aA (aN W _),c3,cH,if_neg hn,Int.toNat_natCast])
 have HO:Hid (qD k=true):=Hd (by unfold qD;simp;omega)
 unfold vN
 generalize aY (k:Int)=tw at HF ⊢
 generalize aO (k:Int)=mw at HF ⊢
 generalize cH (k:Int)=aw at HF ⊢
 generalize qD (k:Int)=ok at HO ⊢
 obtain rfl:=HO.out
 have z1:¬(k:Int)<1:=by omega
 have z2:¬13≤(k:Int):=by omega
 have z3:(k:Int)<13:=by omega
 have z4:(0:Int)≤(k:Int):=by omega
 clear h1 h2
 go_enter func161,ntmps161
 go_wp2_with (go_at_call 229;go_must (refine(HF.out _).mono ?_;rintro e W ⟨rfl,b,hb,hbel,c1,c2,c3⟩;have HB:=Hd (by rw[hb] at hbel;exact hbel);rw[←hb];clear hb hbel))
 go_quiet (fail)
 go_wp2
 refine bodyPost_ret (v:=.tuple #[.string tw,.int .i64 mw,.int .i64 aw,.bool true]) (by simp[results,results161,go_sem]) rfl ⟨rfl,aL HB.out _⟩
theorem cZ (k:Int) (w:World):Calls prog 161 #[.int .i64 k] w (vN w k):=by
 by_cases h:k<1∨13≤k
 ·exact aIl k h w
 ·obtain⟨n,rfl⟩:=Int.eq_ofNat_of_zero_le (by omega:0≤k)
  exact aM7 n (by omega) (by omega) w
theorem qT (t:Tok) (w:World):Calls prog 43 #[t.v] w (Ret (.bool true) w):=by
 unfold Tok.v
 go_enter func43,ntmps43
 go_wp2
 go_ret
 exact⟨rfl,blw⟩
def pY (k:Int):Bool:=k==11 || k==12
theorem aJt (k:Int) (w:World):Calls prog 165 #[.int .i64 k] w (Ret (.bool (pY k)) w):=by
 unfold pY
 go_enter func165,ntmps165
 go_wp2
 all_goals go_ret
 all_goals exact⟨by simp_all,blw⟩
def PS (W:World) (P g:Nat) (l:List Tok):Prop:=∃o c,W.heap[P]?=some (.cells #[.slice (some ⟨g,o,none⟩) l.length c] 89 (0,0))∧dK.At W (some ⟨g,o,none⟩) c l
abbrev iO (er at_:Int):Ending:=.panicked [{v:=.iface 87 (.agg #[.int .i64 er,.int .i64 at_]),recovered:=false}]
theorem PS.head {W:World} {P g:Nat} {t:Tok} {r:List Tok} (h:PS W P g (t::r)):∃o c,W.cell? ⟨P,0,none⟩=some (.slice (some ⟨g,o,none⟩) (r.length+1) c)∧W.frozen? ⟨P,0,none⟩=false∧P<W.heap.size∧
 W.cell? ⟨g,o,none⟩=some (.int .i64 t.k)∧W.cell? ⟨g,o+1,none⟩=some (.string t.s)∧W.cell? ⟨g,o+2,none⟩=some (.int .i64 t.n)∧W.cell? ⟨g,o+3,none⟩=some (.int .i64 t.a)∧r.length+1≤c∧g<W.heap.size∧Hid (W.heap[P]?=some (.cells #[.slice (some ⟨g,o,none⟩) (r.length+1) c] 89 (0,0))∧dK.At W (some ⟨g,o,none⟩) c (t::r)):=by
 obtain⟨o,c,hp,hat⟩:=h
 obtain⟨b,off,e1,hb,hc⟩:=hat.get 0 t rfl
 cases e1
 have c0:=hc 0 (by show 0<4;omega)
 have c1:=hc 1 (by show 1<4;omega)
 have c2:=hc 2 (by show 2<4;omega)
 have c3:=hc 3 (by show 3<4;omega)
 simp only[Nat.zero_mul,Nat.zero_add,Nat.add_zero] at c0 c1 c2 c3
 refine⟨o,c,aA hp 0,by simp[World.frozen?,hp],(gLt hp),c0,c1,c2,c3,?_,hb,Hd ⟨hp,hat⟩⟩
 have:=hat.le
 simpa using this
theorem sH (P g:Nat) (t:Tok) (r:List Tok) (er:Int) (w:World) (h:PS w P g (t::r)):
 Calls prog 88 #[.pointer (some ⟨P,0,none⟩),.int .i64 er] w fun e w'=>e=iO er t.a∧Below w.heap.size w w':=by
 obtain⟨o,c,cp,fp,hP,c0,c1,c2,c3,hl,hg,HPA⟩:=h.head
 have HB:=Hd (Below.refl w.heap.size w)
 go_enter func88,ntmps88
 go_wp2
 exact⟨rfl,rfl,HB.out⟩
def oJ (kind:Int) (ok:Bool) (t:Tok):Bool:=decide (t.k=kind)&&ok
theorem PS.below {W W':World} {P g:Nat} {l:List Tok} (h:PS W P g l) (hb:Below W.heap.size W W'):PS W' P g l:=by
 obtain⟨o,c,hp,hat⟩:=h
 exact⟨o,c,(hb.block P (gLt hp)).trans hp,hat.below hb⟩
theorem aFx (P g:Nat) (t:Tok) (r:List Tok) (kind:Int) (ok:Bool) (f:Nat) (K:Array Value) (w:World) (e2:Ent f) (h:PS w P g (t::r)) (hf:oJ kind ok t=false)
 (hm:∀W,Below w.heap.size w W→Calls prog f (#[t.v]++K) W (Ret (.bool ok) W)):
 Calls prog 42 #[.pointer (some ⟨P,0,none⟩),.int .i64 kind,.func (.func f) #[] K] w fun e w'=>e=iO 80 t.a∧Below w.heap.size w w':=by
 have HPS:=Hd h
 have HFA:=Hd (fun W hW=>sH P g t r 80 W hW)
 have HM:=Hd hm
 have he2:∀args W,(callFunc f args).run prog W=.ok (.enter f args) W:=e2
 obtain⟨o,c,cp,fp,hP,c0,c1,c2,c3,hl,hg,HPA⟩:=h.head
 obtain⟨tk,ts,tn,ta⟩:=t
 clear h hm e2
 by_cases hk:tk=kind
 ·obtain rfl:ok=false:=by simpa[oJ,hk] using hf
  clear hf
  have HM2:Hid (∀W,Below w.heap.size w W→Calls prog f (#[.agg #[.int .i64 tk,.string ts,.int .i64 tn,.int .i64 ta]]++K) W (Ret (.bool false) W)):=HM
  subst hk
  go_enter func42,ntmps42
  go_wp2_with fail
  refine(HM2.out _ blw).mono ?_
  rintro e W1 ⟨rfl,hb⟩
  have HB1:=bst w hb
  clear hb
  go_wp2_with (go_at_call 88;go_must (refine rB w (HFA.out _ (HPS.out.below blw)) ?_;intro W HB))
  exact⟨rfl,rfl,HB.out⟩
 ·clear hf
  go_enter func42,ntmps42
  go_wp2_with (go_at_call 88;go_must (refine rB w (HFA.out _ (HPS.out.below blw)) ?_;intro W HB))
  exact⟨rfl,rfl,HB.out⟩
theorem PS.ne {W:World} {P g:Nat} {t:Tok} {r:List Tok} (h:PS W P g (t::r)):g≠P:=by
 rintro rfl
 obtain⟨o,c,hp,hat⟩:=h
 obtain⟨b,off,e1,hb,hc⟩:=hat.get 0 t rfl
 cases e1
 have c0:=hc 0 (by show 0<4;omega)
 rw[aA hp] at c0
 rcases o with _|o
 ·simp[dK] at c0
 ·simp[dK] at c0
theorem aC2 (g o n c:Nat) (h:n+1≤c) (W:World):(Instr.slice 89 (.slice (some ⟨g,o,none⟩) (n+1) c) (some (.int .i64 1)) none none).run prog W=.ok (.slice (some ⟨g,if c=1 then o else o+4,none⟩) n (c-1)) W:=by
 have hs:(sizeOf (prog.elem 89)).run prog W=.ok 4 W:=by kernel_rfl
 have:=run_slice_l (P:=prog) W 89 (some ⟨g,o,none⟩) (n+1) c (by kernel_rfl) .i64 1 (by omega) (by omega)
 rw[this,hs]
 simp only[Result.andThen,sliced]
 by_cases h1:c=1
 ·subst h1
  simp
 ·simp[h1,Addr.add]
theorem jY {α:Type} {d:En α} {W W':World} {b o c:Nat} {xs:List α} (h:d.At W (some ⟨b,o,none⟩) c xs) (hb:W'.heap[b]?=W.heap[b]?):d.At W' (some ⟨b,o,none⟩) c xs:=
 ⟨h.le,h.max,h.nil,fun hc=>by
   obtain⟨b',off,e,hlt,hcell⟩:=h.cell hc
   cases e
   refine⟨b,o,rfl,?_,fun i hi=>(sQ hb _).trans (hcell i hi)⟩
   rcases Nat.lt_or_ge b W'.heap.size with h1|h1
   ·exact h1
   ·rw[Array.getElem?_eq_none h1,Array.getElem?_eq_getElem hlt] at hb
    cases hb⟩
theorem aG (W:World) (p:Addr) (v:Value) (b:Nat) (h:b≠p.block):(W.setCell p v).heap[b]?=W.heap[b]?:=heap_setCell_other W p b v h
theorem PS.tail {W:World} {P g:Nat} {t:Tok} {r:List Tok} {o c:Nat} (hp:Boxed W P 89 (.slice (some ⟨g,o,none⟩) (r.length+1) c)) (hat:dK.At W (some ⟨g,o,none⟩) c (t::r)) (hne:g≠P):
 PS (W.setCell ⟨P,0,none⟩ (.slice (some ⟨g,if c=1 then o else o+4,none⟩) r.length (c-1))) P g r:=by
 have h1:=hat.drop 1 (by simp) (some ⟨g,if c=1 then o else o+4,none⟩) (by by_cases h:c=1 <;> simp[h,dK])
 exact⟨if c=1 then o else o+4,c-1,Boxed.set _ hp,jY h1 (aG _ _ _ _ hne)⟩
theorem PS.set {W:World} {P g:Nat} {l:List Tok} (h:PS W P g l) {p:Addr} (hP:P≠p.block) (hg:g≠p.block) (v:Value):PS (W.setCell p v) P g l:=by
 obtain⟨o,c,hp,hat⟩:=h
 exact⟨o,c,(aG _ _ _ _ hP).trans hp,jY hat (aG _ _ _ _ hg)⟩
def eH (w:World) (P g:Nat) (l:List Tok) (w':World):Prop:=PS w' P g l∧Fr [P] w w'
theorem eH.set {w w':World} {P g:Nat} {l:List Tok} (h:eH w P g l w') {p:Addr} (hp:w.heap.size≤p.block) (hP:P<w.heap.size) (hg:g<w.heap.size) (v:Value):eH w P g l (w'.setCell p v):=
 ⟨h.1.set (by omega) (by omega) v,h.2.set (.inr hp) v⟩
theorem aK5 (P g:Nat) (t:Tok) (r:List Tok) (kind:Int) (f:Nat) (K:Array Value) (w:World) (e2:Ent f) (h:PS w P g (t::r)) (hk:t.k=kind)
 (hm:∀W,Below w.heap.size w W→Calls prog f (#[t.v]++K) W (Ret (.bool true) W)):
 Calls prog 42 #[.pointer (some ⟨P,0,none⟩),.int .i64 kind,.func (.func f) #[] K] w fun e w'=>e=.returned t.v∧eH w P g (if kind=5 then t::r else r) w':=by
 have HPS:=Hd h
 have HNE:=Hd h.ne
 have he2:∀args W,(callFunc f args).run prog W=.ok (.enter f args) W:=e2
 obtain⟨o,c,cp,fp,hP,c0,c1,c2,c3,hl,hg,HPA⟩:=h.head
 obtain⟨tk,ts,tn,ta⟩:=t
 have HM2:Hid (∀W,Below w.heap.size w W→Calls prog f (#[.agg #[.int .i64 tk,.string ts,.int .i64 tn,.int .i64 ta]]++K) W (Ret (.bool true) W)):=Hd hm
 have hs:=fun W=>aC2 g o r.length c hl W
 obtain⟨q,hq⟩:∃q,q=if c=1 then o else o+4:=⟨_,rfl⟩
 rw[←hq] at hs
 have HQ:=Hd hq
 dsimp only at hk
 subst hk
 clear h hm e2 hq
 by_cases h5:tk=5
 ·subst h5
  go_enter func42,ntmps42
  go_wp2_with fail
  refine(HM2.out _ blw).mono ?_
  rintro e W1 ⟨rfl,hb⟩
  have HB1:=bst w hb
  (obtain⟨kc1_0_0,kc1_0_1,kc1_0_2,kc1_0_3⟩:W1.cell? ⟨w.heap.size,0,none⟩=some (.int .i64 0)∧W1.cell? ⟨w.heap.size,1,none⟩=some (.string ⟨#[]⟩)∧W1.cell? ⟨w.heap.size,2,none⟩=some (.int .i64 0)∧W1.cell? ⟨w.heap.size,3,none⟩=some (.int .i64 0):=⟨aC hb (by(first|assumption|(go_simp;done)|exact(Hid.out (by assumption)))),aC hb (by(first|assumption|(go_simp;done)|exact(Hid.out (by assumption)))),aC hb (by(first|assumption|(go_simp;done)|exact(Hid.out (by assumption)))),aC hb (by(first|assumption|(go_simp;done)|exact(Hid.out (by assumption))))⟩;have kf1_0:∀oo_,W1.frozen? ⟨w.heap.size,oo_,none⟩=false:=(fun oo_=>(hb.frozen (p:=⟨w.heap.size,oo_,none⟩) (bL _ ⟨w.heap.size,0,none⟩ (show World.cell? _ _=some (.int .i64 0) from by(first|assumption|(go_simp;done)|exact(Hid.out (by assumption)))))).trans (by first|(go_simp;done)|assumption|apply_assumption (exfalso:=false)));obtain⟨kc1_1_0,kc1_1_1,kc1_1_2,kc1_1_3⟩:W1.cell? ⟨w.heap.size+1,0,none⟩=some (.int .i64 5)∧W1.cell? ⟨w.heap.size+1,1,none⟩=some (.string ts)∧W1.cell? ⟨w.heap.size+1,2,none⟩=some (.int .i64 tn)∧W1.cell? ⟨w.heap.size+1,3,none⟩=some (.int .i64 ta):=⟨aC hb (by(first|assumption|(go_simp;done)|exact(Hid.out (by assumption)))),aC hb (by(first|assumption|(go_simp;done)|exact(Hid.out (by assumption)))),aC hb (by(first|assumption|(go_simp;done)|exact(Hid.out (by assumption)))),aC hb (by(first|assumption|(go_simp;done)|exact(Hid.out (by assumption))))⟩;have kf1_1:∀oo_,W1.frozen? ⟨w.heap.size+1,oo_,none⟩=false:=(fun oo_=>(hb.frozen (p:=⟨w.heap.size+1,oo_,none⟩) (bL _ ⟨w.heap.size+1,0,none⟩ (show World.cell? _ _=some (.int .i64 5) from by(first|assumption|(go_simp;done)|exact(Hid.out (by assumption)))))).trans (by first|(go_simp;done)|assumption|apply_assumption (exfalso:=false))))
  clear hb
  go_wp2_with fail
  have L0:eH w P g (⟨5,ts,tn,ta⟩::r) W1:=⟨HPS.out.below HB1.out,Fr.of_below HB1.out _⟩
  refine bodyPost_ret (v:=Tok.v ⟨5,ts,tn,ta⟩) (by simp[results,results42,go_sem,Tok.v, *]) rfl ⟨rfl,((((L0.set (p:=⟨w.heap.size,0,none⟩) nR hP hg _).set (p:=⟨w.heap.size,1,none⟩) nR hP hg _).set (p:=⟨w.heap.size,2,none⟩) nR hP hg _).set (p:=⟨w.heap.size,3,none⟩) nR hP hg _)⟩
 ·go_enter func42,ntmps42
  go_wp2_with fail
  refine(HM2.out _ blw).mono ?_
  rintro e W1 ⟨rfl,hb⟩
  have HB1:=bst w hb
  (obtain⟨kc2_0_0,kc2_0_1,kc2_0_2,kc2_0_3⟩:W1.cell? ⟨w.heap.size,0,none⟩=some (.int .i64 0)∧W1.cell? ⟨w.heap.size,1,none⟩=some (.string ⟨#[]⟩)∧W1.cell? ⟨w.heap.size,2,none⟩=some (.int .i64 0)∧W1.cell? ⟨w.heap.size,3,none⟩=some (.int .i64 0):=⟨aC hb (by(first|assumption|(go_simp;done)|exact(Hid.out (by assumption)))),aC hb (by(first|assumption|(go_simp;done)|exact(Hid.out (by assumption)))),aC hb (by(first|assumption|(go_simp;done)|exact(Hid.out (by assumption)))),aC hb (by(first|assumption|(go_simp;done)|exact(Hid.out (by assumption))))⟩;have kf2_0:∀oo_,W1.frozen? ⟨w.heap.size,oo_,none⟩=false:=(fun oo_=>(hb.frozen (p:=⟨w.heap.size,oo_,none⟩) (bL _ ⟨w.heap.size,0,none⟩ (show World.cell? _ _=some (.int .i64 0) from by(first|assumption|(go_simp;done)|exact(Hid.out (by assumption)))))).trans (by first|(go_simp;done)|assumption|apply_assumption (exfalso:=false)));obtain⟨kc2_1_0,kc2_1_1,kc2_1_2,kc2_1_3⟩:W1.cell? ⟨w.heap.size+1,0,none⟩=some (.int .i64 tk)∧W1.cell? ⟨w.heap.size+1,1,none⟩=some (.string ts)∧W1.cell? ⟨w.heap.size+1,2,none⟩=some (.int .i64 tn)∧W1.cell? ⟨w.heap.size+1,3,none⟩=some (.int .i64 ta):=⟨aC hb (by(first|assumption|(go_simp;done)|exact(Hid.out (by assumption)))),aC hb (by(first|assumption|(go_simp;done)|exact(Hid.out (by assumption)))),aC hb (by(first|assumption|(go_simp;done)|exact(Hid.out (by assumption)))),aC hb (by(first|assumption|(go_simp;done)|exact(Hid.out (by assumption))))⟩;have kf2_1:∀oo_,W1.frozen? ⟨w.heap.size+1,oo_,none⟩=false:=(fun oo_=>(hb.frozen (p:=⟨w.heap.size+1,oo_,none⟩) (bL _ ⟨w.heap.size+1,0,none⟩ (show World.cell? _ _=some (.int .i64 tk) from by(first|assumption|(go_simp;done)|exact(Hid.out (by assumption)))))).trans (by first|(go_simp;done)|assumption|apply_assumption (exfalso:=false)));have kc2_2_0:W1.cell? ⟨P,0,none⟩=some (.slice (some ⟨g,o,none⟩) (r.length+1) c):=aC hb (by(first|assumption|(go_simp;done)|exact(Hid.out (by assumption))));have kf2_2:W1.frozen? ⟨P,0,none⟩=false:=((hb.frozen (p:=⟨P,0,none⟩) (bL _ ⟨P,0,none⟩ (show World.cell? _ _=some (.slice (some ⟨g,o,none⟩) (r.length+1) c) from by(first|assumption|(go_simp;done)|exact(Hid.out (by assumption)))))).trans (by first|(go_simp;done)|assumption|apply_assumption (exfalso:=false))))
  clear hb
  go_wp2_with fail
  have L0:eH w P g r (W1.setCell ⟨P,0,none⟩ (.slice (some ⟨g,q,none⟩) r.length (c-1))):=by
   refine⟨?_,(Fr.of_below HB1.out _).set (.inl (by simp)) _⟩
   rw[HQ.out]
   exact PS.tail ((HB1.out.block P hP).trans HPA.out.1) (HPA.out.2.below HB1.out) HNE.out
  refine bodyPost_ret (v:=Tok.v ⟨tk,ts,tn,ta⟩) (by simp[results,results42,go_sem,Tok.v, *]) rfl ⟨rfl,((((L0.set (p:=⟨w.heap.size,0,none⟩) nR hP hg _).set (p:=⟨w.heap.size,1,none⟩) nR hP hg _).set (p:=⟨w.heap.size,2,none⟩) nR hP hg _).set (p:=⟨w.heap.size,3,none⟩) nR hP hg _)⟩
abbrev PR (α:Type):=Except (Int×Int) (α×List Tok)
def gI {α:Type} (w:World) (P g:Nat) (R:α→Ending→World→Prop):PR α→Ending→World→Prop
 |.ok (x,l),e,w'=>R x e w'∧eH w P g l w'
 |.error (er,a),e,w'=>e=iO er a∧Fr [P] w w'
def bK (kind:Int) (ok:Tok→Bool):List Tok→PR Tok
 |[]=>.error (0,0)
 |t::r=>if oJ kind (ok t) t then .ok (t,if kind=5 then t::r else r) else .error (80,t.a)
theorem gV (P g:Nat) (l:List Tok) (hl:l≠[]) (kind:Int) (ok:Tok→Bool) (f:Nat) (K:Array Value) (w:World) (e2:Ent f) (h:PS w P g l)
 (hm:∀t∈l,∀W,Below w.heap.size w W→Calls prog f (#[t.v]++K) W (Ret (.bool (ok t)) W)):
 Calls prog 42 #[.pointer (some ⟨P,0,none⟩),.int .i64 kind,.func (.func f) #[] K] w (gI w P g (fun t e _=>e=.returned t.v) (bK kind ok l)):=by
 cases l with
 |nil=>exact absurd rfl hl
 |cons t r=>
  cases hf:oJ kind (ok t) t with
  |true=>
   have E:bK kind ok (t::r)=.ok (t,if kind=5 then t::r else r):=by simp only[bK,hf,if_true]
   rw[E]
   have hk:t.k=kind∧ok t=true:=by simpa[oJ] using hf
   have hm2:=hm t (by simp)
   rw[hk.2] at hm2
   exact aK5 P g t r kind f K w e2 h hk.1 hm2
  |false=>
   have E:bK kind ok (t::r)=.error (80,t.a):=by simp[bK,hf]
   rw[E]
   exact(aFx P g t r kind (ok t) f K w e2 h hf (hm t (by simp))).mono fun e w' ⟨h1,h2⟩=>⟨h1,Fr.of_below h2 _⟩
theorem aC4 (t:Tok) (s:ByteArray) (b:Nat) (w:World) (hc:w.cell? ⟨b,0,none⟩=some (.string s)):Calls prog 162 #[t.v,.pointer (some ⟨b,0,none⟩)] w (Ret (.bool (eqS t.s s)) w):=by
 have hb:=bL w ⟨b,0,none⟩ hc
 dsimp only at hb
 unfold Tok.v
 go_enter func162,ntmps162
 go_wp2
 go_ret
 exact⟨rfl,blw⟩
theorem aM8 (t:Tok) (m:Int) (b:Nat) (w:World) (hc:w.cell? ⟨b,0,none⟩=some (.int .i64 m)):Calls prog 163 #[t.v,.pointer (some ⟨b,0,none⟩)] w (Ret (.bool (decide (t.n≤m))) w):=by
 have hb:=bL w ⟨b,0,none⟩ hc
 dsimp only at hb
 unfold Tok.v
 go_enter func163,ntmps163
 go_wp2
 go_ret
 exact⟨rfl,blw⟩
theorem zT (t:Tok) (w:World) (hs:t.s.size≤9223372036854775807):Calls prog 164 #[t.v] w (Ret (.bool (aZ t.s)) w):=by
 have HN:=Hd (fun W=>eB t.s W hs)
 generalize aZ t.s=b at HN ⊢
 unfold Tok.v
 go_enter func164,ntmps164
 go_wp2_with (go_at_call 60;go_must (refine rB w (HN.out _) ?_;intro wq1 Bq1))
 go_ret
 exact⟨rfl,blw⟩
def bM (s:ByteArray) (l:List Tok):PR Tok:=bK 4 (fun t=>eqS t.s s) l
theorem aQm:Ent 162:=enters_of func162 (by kernel_rfl) rfl
theorem aQl:Ent 163:=enters_of func163 (by kernel_rfl) rfl
theorem aQk:Ent 164:=enters_of func164 (by kernel_rfl) rfl
theorem aB6:Ent 43:=enters_of func43 (by kernel_rfl) rfl
theorem lT (P g:Nat) (l:List Tok) (hl:l≠[]) (s:ByteArray) (w:World) (h:PS w P g l):
 Calls prog 90 #[.pointer (some ⟨P,0,none⟩),.string s] w (gI w P g (fun _ e _=>∃v,e=.returned v) (bM s l)):=by
 have HT:Hid (Calls prog 42 #[.pointer (some ⟨P,0,none⟩),.int .i64 4,.func (.func 162) #[] #[.pointer (some ⟨w.heap.size,0,none⟩)]] (w.alloc (.cells #[.string s] 9)) (gI (w.alloc (.cells #[.string s] 9)) P g (fun t e _=>e=.returned t.v) (bM s l))):=
  Hd (gV P g l hl 4 _ 162 _ _ aQm (h.below (aB bR _)) (fun t _ W hW=>aC4 t s _ W ((hW.cell (p:=⟨w.heap.size,0,none⟩) (by simp)).trans (aA (aN w _) 0))))
 have HP:=Hd (by obtain⟨o,c,hp,_⟩:=h;exact(gLt hp))
 generalize bM s l=x at HT ⊢
 clear h hl
 rcases x with⟨er,a⟩|⟨t,l'⟩
 ·go_enter func90,ntmps90
  go_wp2_with (go_at_call 42;go_must (refine HT.out.mono ?_;rintro e W ⟨rfl,hf⟩;have HF:=Hd hf;clear hf))
  exact⟨rfl,rfl,Fr.of_below_then (aB bR _) HF.out⟩
 ·go_enter func90,ntmps90
  go_wp2_with (go_at_call 42;go_must (refine HT.out.mono ?_;rintro e W ⟨rfl,hf⟩;have HF:=Hd hf;clear hf))
  go_end0
  exact⟨⟨_,rfl⟩,HF.out.1,Fr.of_below_then (aB bR _) HF.out.2⟩
def hitB (t:Tok) (k:Int):Bool:=t.k==1&&(eqS t.s (aY k)&&!(aY k).toList.isEmpty)
def eC (p:Int→Bool):Nat→Int→Option Int
 |0,_=>none
 |f+1,k=>if p k then some k else eC p f (k+1)
def fJ (cond:Bool) (t:Tok):Option Int:=
 if t.k=3∧cond=false then some 4 else if cond then eC (hitB t) 2 11 else eC (hitB t) 10 1
def aOv (w:World) (a:Int):Option Int→Ending→World→Prop
 |some k,e,w'=>e=.returned (.int .i64 k)∧Below w.heap.size w w'
 |none,e,w'=>e=iO 80 a∧Below w.heap.size w w'
theorem vG (P g:Nat) (t:Tok) (r:List Tok) (w:World) (h:PS w P g (t::r)) (hk:t.k=3):
 Calls prog 89 #[.pointer (some ⟨P,0,none⟩),.bool false] w (Ret (.int .i64 4) w):=by
 obtain⟨o,c,cp,fp,hP,c0,c1,c2,c3,hl,hg,HPA⟩:=h.head
 obtain⟨tk,ts,tn,ta⟩:=t
 dsimp only at hk
 subst hk
 clear h
 go_enter func89,ntmps89
 go_wp2
 go_ret
 exact⟨rfl,blw⟩
theorem qA (P g:Nat) (t:Tok) (r:List Tok) (cond:Bool) (w:World) (h:PS w P g (t::r)) (hk:¬(t.k=3∧cond=false)) (a b n:Nat) (hab:(cond=true∧a=11∧b=12)∨(cond=false∧a=1∧b=10)) (hn:n+a=b+1):
 Calls prog 89 #[.pointer (some ⟨P,0,none⟩),.bool cond] w (aOv w t.a (eC (hitB t) n a)):=by
 obtain⟨o,c,cp,fp,hP,c0,c1,c2,c3,hl,hg,HPA⟩:=h.head
 have HPS:=Hd h
 have HFA:=Hd (fun W hW=>sH P g t r 80 W hW)
 have HFO:=Hd cZ
 have HIT:Hid (∀k,hitB t k=(t.k==1&&(eqS t.s (aY k)&&!(aY k).toList.isEmpty))):=Hd (fun _=>rfl)
 generalize hitB t=p at HIT ⊢
 obtain⟨tk,ts,tn,ta⟩:=t
 dsimp only at hk HFA HIT
 have HN:=Hd hn
 have HAB:Hid (b≤12):=Hd (by omega)
 clear h hn
 rcases hab with⟨rfl,rfl,rfl⟩|⟨rfl,rfl,rfl⟩
 ·clear hk
  by_cases hk3:tk=3
  ·subst hk3
   go_enter func89,ntmps89
   go_wp2
   go_loopw [8] (fun iv wr=>∃k f:Nat,iv=.int .i64 k∧f+k=12+1∧Hid (eC p n 11=eC p f k)∧Hid (Below w.heap.size w wr)∧wr.cell? ⟨w.heap.size,0,none⟩=some (.int .i64 3)∧wr.cell? ⟨w.heap.size,1,none⟩=some (.string ts)) (fun iv _=>14-(intOf iv).toNat)
   case atStart=>exact⟨11,n,rfl,HN.out,Hd rfl,Hd blw,by go_simp,by go_simp⟩
   case round=>
    obtain⟨k,f,rfl,hfk,HE,HB,d0,d1⟩:=hrel
    by_cases hle:k≤12
    ·obtain⟨f,rfl⟩:∃q,f=q+1:=⟨f-1,by omega⟩
     have z1:(k:Int)≤12:=by omega
     have z2:wrap64 ((k:Int)+1)=((k+1:Nat):Int):=by rw[Mem.w64 (by omega) (by omega)];omega
     have HH:=Hd (HIT.out k)
     have HST:Hid (eC p n 11=if p k then some (k:Int) else eC p f (k+1)):=HE
     obtain⟨wd,hwd⟩:∃wd,wd=aY k:=⟨_,rfl⟩
     rw[←hwd] at HH
     have HWD:=Hd hwd
     have HL:Hid (f+(k+1)=12+1):=Hd (by omega)
     have HM:Hid (14-(k+1)<14-k):=Hd (by omega)
     clear hwd hfk hle HE HIT
     have HF:Hid (p k=false):=Hd (by rw[HH.out];rfl)
     clear HH
     go_wp2_with (go_at_call 161;go_must (refine(HFO.out _ _).mono ?_;rintro e W2 ⟨rfl,hb⟩;rw[←HWD.out];(obtain⟨kc1_0_0,kc1_0_1⟩:W2.cell? ⟨w.heap.size,0,none⟩=some (.int .i64 3)∧W2.cell? ⟨w.heap.size,1,none⟩=some (.string ts):=⟨aC hb (by(first|assumption|(go_simp;done)|exact(Hid.out (by assumption)))),aC hb (by(first|assumption|(go_simp;done)|exact(Hid.out (by assumption))))⟩);have HB2:=Hd (aD (w:=w) HB.out hb);clear hb))
     go_roundw
     case rel=>exact⟨k+1,f,by simp,HL.out,Hd (by rw[HST.out,HF.out];simp),HB2,by assumption,by assumption⟩
     case measure=>have:=HM.out;simp[intOf];omega
    ·obtain rfl:k=12+1:=by omega
     obtain rfl:f=0:=by omega
     have HE2:Hid (eC p n 11=none):=HE
     go_wp2_with (go_at_call 88;go_must (refine(HFA.out _ (HPS.out.below HB.out)).mono ?_;rintro e W2 ⟨rfl,hb⟩;have HB2:=Hd (aD (w:=w) HB.out hb);clear hb))
     rw[HE2.out]
     exact⟨rfl,rfl,HB2.out⟩
  ·by_cases h1:tk=1
   ·subst h1
    clear hk3
    go_enter func89,ntmps89
    go_wp2
    go_loopw [8] (fun iv wr=>∃k f:Nat,iv=.int .i64 k∧f+k=12+1∧Hid (eC p n 11=eC p f k)∧Hid (Below w.heap.size w wr)∧wr.cell? ⟨w.heap.size,0,none⟩=some (.int .i64 1)∧wr.cell? ⟨w.heap.size,1,none⟩=some (.string ts)) (fun iv _=>14-(intOf iv).toNat)
    case atStart=>exact⟨11,n,rfl,HN.out,Hd rfl,Hd blw,by go_simp,by go_simp⟩
    case round=>
     obtain⟨k,f,rfl,hfk,HE,HB,d0,d1⟩:=hrel
     by_cases hle:k≤12
     ·obtain⟨f,rfl⟩:∃q,f=q+1:=⟨f-1,by omega⟩
      have z1:(k:Int)≤12:=by omega
      have z2:wrap64 ((k:Int)+1)=((k+1:Nat):Int):=by rw[Mem.w64 (by omega) (by omega)];omega
      have HH:=Hd (HIT.out k)
      have HST:Hid (eC p n 11=if p k then some (k:Int) else eC p f (k+1)):=HE
      obtain⟨wd,hwd⟩:∃wd,wd=aY k:=⟨_,rfl⟩
      rw[←hwd] at HH
      have HWD:=Hd hwd
      have HL:Hid (f+(k+1)=12+1):=Hd (by omega)
      have HM:Hid (14-(k+1)<14-k):=Hd (by omega)
      clear hwd hfk hle HE HIT
      cases h2:eqS ts wd with
      |true=>
       cases h3:wd.toList.isEmpty with
       |true=>
        have HF:Hid (p k=false):=Hd (by rw[HH.out,h2,h3];rfl)
        have hz:wd=⟨#[]⟩:=by
         rw[gQ] at h3
         exact ByteArray.ext (Array.eq_empty_of_size_eq_zero (of_decide_eq_true h3))
        subst hz
        have hts:=kB h2
        subst hts
        clear h2 h3 HH
        go_wp2_with (go_at_call 161;go_must (refine(HFO.out _ _).mono ?_;rintro e W2 ⟨rfl,hb⟩;rw[←HWD.out];(obtain⟨kc2_0_0,kc2_0_1⟩:W2.cell? ⟨w.heap.size,0,none⟩=some (.int .i64 1)∧W2.cell? ⟨w.heap.size,1,none⟩=some (.string ⟨#[]⟩):=⟨aC hb (by(first|assumption|(go_simp;done)|exact(Hid.out (by assumption)))),aC hb (by(first|assumption|(go_simp;done)|exact(Hid.out (by assumption))))⟩);have HB2:=Hd (aD (w:=w) HB.out hb);clear hb))
        go_roundw
        case rel=>exact⟨k+1,f,by simp,HL.out,Hd (by rw[HST.out,HF.out];simp),HB2,by assumption,by assumption⟩
        case measure=>have:=HM.out;simp[intOf];omega
       |false=>
        have g2:(ts.toList==wd.toList)=true:=h2
        have HF:Hid (p k=true):=Hd (by rw[HH.out,h2,h3];rfl)
        clear h2 HH
        go_wp2_with (go_at_call 161;go_must (refine(HFO.out _ _).mono ?_;rintro e W2 ⟨rfl,hb⟩;rw[←HWD.out];(obtain⟨kc3_0_0,kc3_0_1⟩:W2.cell? ⟨w.heap.size,0,none⟩=some (.int .i64 1)∧W2.cell? ⟨w.heap.size,1,none⟩=some (.string ts):=⟨aC hb (by(first|assumption|(go_simp;done)|exact(Hid.out (by assumption)))),aC hb (by(first|assumption|(go_simp;done)|exact(Hid.out (by assumption))))⟩);have HB2:=Hd (aD (w:=w) HB.out hb);clear hb))
        go_ret
        rw[HST.out,HF.out]
        exact⟨rfl,HB2.out⟩
      |false=>
       have g2:(ts.toList==wd.toList)=false:=h2
       have HF:Hid (p k=false):=Hd (by rw[HH.out,h2];rfl)
       clear h2 HH
       go_wp2_with (go_at_call 161;go_must (refine(HFO.out _ _).mono ?_;rintro e W2 ⟨rfl,hb⟩;rw[←HWD.out];(obtain⟨kc4_0_0,kc4_0_1⟩:W2.cell? ⟨w.heap.size,0,none⟩=some (.int .i64 1)∧W2.cell? ⟨w.heap.size,1,none⟩=some (.string ts):=⟨aC hb (by(first|assumption|(go_simp;done)|exact(Hid.out (by assumption)))),aC hb (by(first|assumption|(go_simp;done)|exact(Hid.out (by assumption))))⟩);have HB2:=Hd (aD (w:=w) HB.out hb);clear hb))
       go_roundw
       case rel=>exact⟨k+1,f,by simp,HL.out,Hd (by rw[HST.out,HF.out];simp),HB2,by assumption,by assumption⟩
       case measure=>have:=HM.out;simp[intOf];omega
     ·obtain rfl:k=12+1:=by omega
      obtain rfl:f=0:=by omega
      have HE2:Hid (eC p n 11=none):=HE
      go_wp2_with (go_at_call 88;go_must (refine(HFA.out _ (HPS.out.below HB.out)).mono ?_;rintro e W2 ⟨rfl,hb⟩;have HB2:=Hd (aD (w:=w) HB.out hb);clear hb))
      rw[HE2.out]
      exact⟨rfl,rfl,HB2.out⟩
   ·skip
    go_enter func89,ntmps89
    go_wp2
    go_loopw [8] (fun iv wr=>∃k f:Nat,iv=.int .i64 k∧f+k=12+1∧Hid (eC p n 11=eC p f k)∧Hid (Below w.heap.size w wr)∧wr.cell? ⟨w.heap.size,0,none⟩=some (.int .i64 tk)∧wr.cell? ⟨w.heap.size,1,none⟩=some (.string ts)) (fun iv _=>14-(intOf iv).toNat)
    case atStart=>exact⟨11,n,rfl,HN.out,Hd rfl,Hd blw,by go_simp,by go_simp⟩
    case round=>
     obtain⟨k,f,rfl,hfk,HE,HB,d0,d1⟩:=hrel
     by_cases hle:k≤12
     ·obtain⟨f,rfl⟩:∃q,f=q+1:=⟨f-1,by omega⟩
      have z1:(k:Int)≤12:=by omega
      have z2:wrap64 ((k:Int)+1)=((k+1:Nat):Int):=by rw[Mem.w64 (by omega) (by omega)];omega
      have HH:=Hd (HIT.out k)
      have HST:Hid (eC p n 11=if p k then some (k:Int) else eC p f (k+1)):=HE
      obtain⟨wd,hwd⟩:∃wd,wd=aY k:=⟨_,rfl⟩
      rw[←hwd] at HH
      have HWD:=Hd hwd
      have HL:Hid (f+(k+1)=12+1):=Hd (by omega)
      have HM:Hid (14-(k+1)<14-k):=Hd (by omega)
      clear hwd hfk hle HE HIT
      have HF:Hid (p k=false):=Hd (by rw[HH.out,bN h1];rfl)
      clear HH
      go_wp2_with (go_at_call 161;go_must (refine(HFO.out _ _).mono ?_;rintro e W2 ⟨rfl,hb⟩;rw[←HWD.out];(obtain⟨kc5_0_0,kc5_0_1⟩:W2.cell? ⟨w.heap.size,0,none⟩=some (.int .i64 tk)∧W2.cell? ⟨w.heap.size,1,none⟩=some (.string ts):=⟨aC hb (by(first|assumption|(go_simp;done)|exact(Hid.out (by assumption)))),aC hb (by(first|assumption|(go_simp;done)|exact(Hid.out (by assumption))))⟩);have HB2:=Hd (aD (w:=w) HB.out hb);clear hb))
      go_roundw
      case rel=>exact⟨k+1,f,by simp,HL.out,Hd (by rw[HST.out,HF.out];simp),HB2,by assumption,by assumption⟩
      case measure=>have:=HM.out;simp[intOf];omega
     ·obtain rfl:k=12+1:=by omega
      obtain rfl:f=0:=by omega
      have HE2:Hid (eC p n 11=none):=HE
      go_wp2_with (go_at_call 88;go_must (refine(HFA.out _ (HPS.out.below HB.out)).mono ?_;rintro e W2 ⟨rfl,hb⟩;have HB2:=Hd (aD (w:=w) HB.out hb);clear hb))
      rw[HE2.out]
      exact⟨rfl,rfl,HB2.out⟩
 ·have hk3:¬tk=3:=fun e=>hk ⟨e,rfl⟩
  clear hk
  by_cases h1:tk=1
  ·subst h1
   clear hk3
   go_enter func89,ntmps89
   go_wp2
   go_loopw [8] (fun iv wr=>∃k f:Nat,iv=.int .i64 k∧f+k=10+1∧Hid (eC p n 1=eC p f k)∧Hid (Below w.heap.size w wr)∧wr.cell? ⟨w.heap.size,0,none⟩=some (.int .i64 1)∧wr.cell? ⟨w.heap.size,1,none⟩=some (.string ts)) (fun iv _=>14-(intOf iv).toNat)
   case atStart=>exact⟨1,n,rfl,HN.out,Hd rfl,Hd blw,by go_simp,by go_simp⟩
   case round=>
    obtain⟨k,f,rfl,hfk,HE,HB,d0,d1⟩:=hrel
    by_cases hle:k≤10
    ·obtain⟨f,rfl⟩:∃q,f=q+1:=⟨f-1,by omega⟩
     have z1:(k:Int)≤10:=by omega
     have z2:wrap64 ((k:Int)+1)=((k+1:Nat):Int):=by rw[Mem.w64 (by omega) (by omega)];omega
     have HH:=Hd (HIT.out k)
     have HST:Hid (eC p n 1=if p k then some (k:Int) else eC p f (k+1)):=HE
     obtain⟨wd,hwd⟩:∃wd,wd=aY k:=⟨_,rfl⟩
     rw[←hwd] at HH
     have HWD:=Hd hwd
     have HL:Hid (f+(k+1)=10+1):=Hd (by omega)
     have HM:Hid (14-(k+1)<14-k):=Hd (by omega)
     clear hwd hfk hle HE HIT
     cases h2:eqS ts wd with
     |true=>
      cases h3:wd.toList.isEmpty with
      |true=>
       have HF:Hid (p k=false):=Hd (by rw[HH.out,h2,h3];rfl)
       have hz:wd=⟨#[]⟩:=by
        rw[gQ] at h3
        exact ByteArray.ext (Array.eq_empty_of_size_eq_zero (of_decide_eq_true h3))
       subst hz
       have hts:=kB h2
       subst hts
       clear h2 h3 HH
       go_wp2_with (go_at_call 161;go_must (refine(HFO.out _ _).mono ?_;rintro e W2 ⟨rfl,hb⟩;rw[←HWD.out];(obtain⟨kc6_0_0,kc6_0_1⟩:W2.cell? ⟨w.heap.size,0,none⟩=some (.int .i64 1)∧W2.cell? ⟨w.heap.size,1,none⟩=some (.string ⟨#[]⟩):=⟨aC hb (by(first|assumption|(go_simp;done)|exact(Hid.out (by assumption)))),aC hb (by(first|assumption|(go_simp;done)|exact(Hid.out (by assumption))))⟩);have HB2:=Hd (aD (w:=w) HB.out hb);clear hb))
       go_roundw
       case rel=>exact⟨k+1,f,by simp,HL.out,Hd (by rw[HST.out,HF.out];simp),HB2,by assumption,by assumption⟩
       case measure=>have:=HM.out;simp[intOf];omega
      |false=>
       have g2:(ts.toList==wd.toList)=true:=h2
       have HF:Hid (p k=true):=Hd (by rw[HH.out,h2,h3];rfl)
       clear h2 HH
       go_wp2_with (go_at_call 161;go_must (refine(HFO.out _ _).mono ?_;rintro e W2 ⟨rfl,hb⟩;rw[←HWD.out];(obtain⟨kc7_0_0,kc7_0_1⟩:W2.cell? ⟨w.heap.size,0,none⟩=some (.int .i64 1)∧W2.cell? ⟨w.heap.size,1,none⟩=some (.string ts):=⟨aC hb (by(first|assumption|(go_simp;done)|exact(Hid.out (by assumption)))),aC hb (by(first|assumption|(go_simp;done)|exact(Hid.out (by assumption))))⟩);have HB2:=Hd (aD (w:=w) HB.out hb);clear hb))
       go_ret
       rw[HST.out,HF.out]
       exact⟨rfl,HB2.out⟩
     |false=>
      have g2:(ts.toList==wd.toList)=false:=h2
      have HF:Hid (p k=false):=Hd (by rw[HH.out,h2];rfl)
      clear h2 HH
      go_wp2_with (go_at_call 161;go_must (refine(HFO.out _ _).mono ?_;rintro e W2 ⟨rfl,hb⟩;rw[←HWD.out];(obtain⟨kc8_0_0,kc8_0_1⟩:W2.cell? ⟨w.heap.size,0,none⟩=some (.int .i64 1)∧W2.cell? ⟨w.heap.size,1,none⟩=some (.string ts):=⟨aC hb (by(first|assumption|(go_simp;done)|exact(Hid.out (by assumption)))),aC hb (by(first|assumption|(go_simp;done)|exact(Hid.out (by assumption))))⟩);have HB2:=Hd (aD (w:=w) HB.out hb);clear hb))
      go_roundw
      case rel=>exact⟨k+1,f,by simp,HL.out,Hd (by rw[HST.out,HF.out];simp),HB2,by assumption,by assumption⟩
      case measure=>have:=HM.out;simp[intOf];omega
    ·obtain rfl:k=10+1:=by omega
     obtain rfl:f=0:=by omega
     have HE2:Hid (eC p n 1=none):=HE
     go_wp2_with (go_at_call 88;go_must (refine(HFA.out _ (HPS.out.below HB.out)).mono ?_;rintro e W2 ⟨rfl,hb⟩;have HB2:=Hd (aD (w:=w) HB.out hb);clear hb))
     rw[HE2.out]
     exact⟨rfl,rfl,HB2.out⟩
  ·skip
   go_enter func89,ntmps89
   go_wp2
   go_loopw [8] (fun iv wr=>∃k f:Nat,iv=.int .i64 k∧f+k=10+1∧Hid (eC p n 1=eC p f k)∧Hid (Below w.heap.size w wr)∧wr.cell? ⟨w.heap.size,0,none⟩=some (.int .i64 tk)∧wr.cell? ⟨w.heap.size,1,none⟩=some (.string ts)) (fun iv _=>14-(intOf iv).toNat)
   case atStart=>exact⟨1,n,rfl,HN.out,Hd rfl,Hd blw,by go_simp,by go_simp⟩
   case round=>
    obtain⟨k,f,rfl,hfk,HE,HB,d0,d1⟩:=hrel
    by_cases hle:k≤10
    ·obtain⟨f,rfl⟩:∃q,f=q+1:=⟨f-1,by omega⟩
     have z1:(k:Int)≤10:=by omega
     have z2:wrap64 ((k:Int)+1)=((k+1:Nat):Int):=by rw[Mem.w64 (by omega) (by omega)];omega
     have HH:=Hd (HIT.out k)
     have HST:Hid (eC p n 1=if p k then some (k:Int) else eC p f (k+1)):=HE
     obtain⟨wd,hwd⟩:∃wd,wd=aY k:=⟨_,rfl⟩
     rw[←hwd] at HH
     have HWD:=Hd hwd
     have HL:Hid (f+(k+1)=10+1):=Hd (by omega)
     have HM:Hid (14-(k+1)<14-k):=Hd (by omega)
     clear hwd hfk hle HE HIT
     have HF:Hid (p k=false):=Hd (by rw[HH.out,bN h1];rfl)
     clear HH
     go_wp2_with (go_at_call 161;go_must (refine(HFO.out _ _).mono ?_;rintro e W2 ⟨rfl,hb⟩;rw[←HWD.out];(obtain⟨kc9_0_0,kc9_0_1⟩:W2.cell? ⟨w.heap.size,0,none⟩=some (.int .i64 tk)∧W2.cell? ⟨w.heap.size,1,none⟩=some (.string ts):=⟨aC hb (by(first|assumption|(go_simp;done)|exact(Hid.out (by assumption)))),aC hb (by(first|assumption|(go_simp;done)|exact(Hid.out (by assumption))))⟩);have HB2:=Hd (aD (w:=w) HB.out hb);clear hb))
     go_roundw
     case rel=>exact⟨k+1,f,by simp,HL.out,Hd (by rw[HST.out,HF.out];simp),HB2,by assumption,by assumption⟩
     case measure=>have:=HM.out;simp[intOf];omega
    ·obtain rfl:k=10+1:=by omega
     obtain rfl:f=0:=by omega
     have HE2:Hid (eC p n 1=none):=HE
     go_wp2_with (go_at_call 88;go_must (refine(HFA.out _ (HPS.out.below HB.out)).mono ?_;rintro e W2 ⟨rfl,hb⟩;have HB2:=Hd (aD (w:=w) HB.out hb);clear hb))
     rw[HE2.out]
     exact⟨rfl,rfl,HB2.out⟩
end Go.Proofs.YtlibhkkckgkkkaaGreatDoor.Tf
namespace Go.Proofs.YtlibhkkckgkkkaaGreatDoor.Tf
open Go.RowKit Go.Proofs.YtlibhkkckgkkkaaGreatDoor.Mem Go.Proofs.YtlibhkkckgkkkaaGreatDoor.Boo
inductive Ex where
 |node (k n:Int) (s:ByteArray) (xs:List Ex)
structure EV where
 k:Int
 n:Int
 s:ByteArray
 A:Option Addr
 m:Nat
 c:Nat
def EV.v (x:EV):Value:=.agg #[.int .i64 x.k,.int .i64 x.n,.string x.s,.slice x.A x.m x.c]
def dX:En EV:=⟨fun x=>[.int .i64 x.k,.int .i64 x.n,.string x.s,.slice x.A x.m x.c],4,by omega,fun _=>rfl,fun x u hu=>by simp at hu;rcases hu with rfl|rfl|rfl|rfl <;> rfl⟩
inductive bB (S:Nat→Prop) (W:World):Ex→EV→Prop
 |mk (k n:Int) (s:ByteArray) (xs:List Ex) (A:Option Addr) (c:Nat) (vs:List EV) (hv:vs.length=xs.length) (hat:dX.At W A c vs) (hlo:0<vs.length→∀b o f,A=some ⟨b,o,f⟩→S b)
   (hx:∀(i:Nat) (x:Ex) (v:EV),xs[i]?=some x→vs[i]?=some v→bB S W x v):bB S W (.node k n s xs) ⟨k,n,s,A,xs.length,c⟩
theorem bB.keep {S:Nat→Prop} {W W':World} {x:Ex} {v:EV} (h:bB S W x v) (hk:∀b,S b→b<W.heap.size→W'.heap[b]?=W.heap[b]?):bB S W' x v:=by
 induction h with
 |mk k n s xs A c vs hv hat hlo hx ih=>
  refine bB.mk k n s xs A c vs hv ?_ hlo ih
  rcases Nat.eq_zero_or_pos vs.length with h0|h0
  ·exact⟨hat.le,hat.max,hat.nil,fun h=>by omega⟩
  ·obtain⟨b,o,rfl,hlt,_⟩:=hat.cell h0
   exact jY hat (hk b (hlo h0 b o none rfl) hlt)
theorem bB.mono {S S':Nat→Prop} {W:World} {x:Ex} {v:EV} (h:bB S W x v) (hs:∀b,S b→b<W.heap.size→S' b):bB S' W x v:=by
 induction h with
 |mk k n s xs A c vs hv hat hlo hx ih=>
  refine bB.mk k n s xs A c vs hv hat (fun h0 b o f e=>?_) ih
  obtain⟨b',o',e',hlt,_⟩:=hat.cell h0
  rw[e'] at e
  cases e
  exact hs b (hlo h0 b o none e') hlt
theorem bB.onBelow {S:Nat→Prop} {W W':World} {x:Ex} {v:EV} (h:bB S W x v) (hb:Below W.heap.size W W'):bB S W' x v:=h.keep (fun b _ hl=>hb.block b hl)
theorem bB.fr {S:Nat→Prop} {O:List Nat} {W W':World} {x:Ex} {v:EV} (h:bB S W x v) (hf:Fr O W W') (hO:∀b∈O,¬S b):bB S W' x v:=h.keep (fun b hb hl=>hf.block b hl (fun hm=>hO b hm hb))
theorem bB.set {S:Nat→Prop} {W:World} {x:Ex} {v:EV} (h:bB S W x v) {p:Addr} (hp:¬S p.block) (u:Value):bB S (W.setCell p u) x v:=h.keep (fun b hb _=>aG W p u b (fun e=>hp (by rw[←e];exact hb)))
def iN:ByteArray:=⟨#[44]⟩
def opnB:ByteArray:=⟨#[40]⟩
def nI:ByteArray:=⟨#[41]⟩
def bW (pe:Bool→List Tok→PR Ex) (kind:Int):Nat→Nat→List Tok→PR (List Ex)
 |0,_,l=>.ok ([],l)
 |m+1,i,l=>match (if i=0 then(.ok (⟨0,⟨#[]⟩,0,0⟩,l):PR Tok) else bM iN l) with
  |.error e=>.error e
  |.ok (_,l1)=>match pe (decide (kind=10)&&decide (i=0)) l1 with
   |.error e=>.error e
   |.ok (x,l2)=>match bW pe kind m (i+1) l2 with
    |.error e=>.error e
    |.ok (xs,l3)=>.ok (x::xs,l3)
def sX (kind:Int) (most:Int) (l:List Tok):PR (Int×ByteArray):=match bK kind (fun t=>decide (t.n≤most)) l with
 |.error e=>.error e
 |.ok (t,l1)=>.ok ((t.n,⟨#[]⟩),l1)
def dH (k:Int) (l:List Tok):PR (Int×ByteArray):=
 if k=3 then(match bK 1 (fun t=>aZ t.s) l with
  |.error e=>.error e
  |.ok (t,l1)=>.ok ((0,t.s),l1))
 else if k=5 then(match bM iN l with
  |.error e=>.error e
  |.ok (_,l1)=>sX 3 (aO k) l1)
 else if k=6 then(match bM iN l with
  |.error e=>.error e
  |.ok (_,l1)=>sX 2 (aO k) l1)
 else if k=11 then sX 2 (aO k) l
 else .ok ((0,⟨#[]⟩),l)
def aRj:List Tok→Int
 |[]=>0
 |t::_=>t.a
def rO (pe:Bool→List Tok→PR Ex) (k:Int) (l:List Tok):PR Ex:=match bM opnB l with
 |.error e=>.error e
 |.ok (_,l2)=>match bW pe k (cH k).toNat 0 l2 with
  |.error e=>.error e
  |.ok (xs,l3)=>match dH k l3 with
   |.error e=>.error e
   |.ok ((n,s),l4)=>match bM nI l4 with
    |.error e=>.error e
    |.ok (_,l5)=>.ok (.node k n s xs,l5)
def eX:Nat→Bool→List Tok→PR Ex
 |0,_,l=>.error (81,aRj l)
 |_+1,_,[]=>.error (0,0)
 |f+1,cond,t::r=>match fJ cond t with
  |none=>.error (80,t.a)
  |some k=>if k=4 then(match bK 3 (fun _=>true) (t::r) with
    |.error e=>.error e
    |.ok (q,l1)=>.ok (.node 4 q.n ⟨#[]⟩ [],l1))
   else match bK 1 (fun _=>true) (t::r) with
    |.error e=>.error e
    |.ok (_,l1)=>if k=1∨k=2 then .ok (.node k 0 ⟨#[]⟩ [],l1) else rO (eX f) k l1
def lN (l:List Tok):Prop:=∃i t,l=i++[t]∧t.k=5
theorem lN.ne {l:List Tok} (h:lN l):l≠[]:=by
 obtain⟨i,t,rfl,_⟩:=h
 simp
theorem rF {kind:Int} {ok:Tok→Bool} {l l':List Tok} {t:Tok} (h:lN l) (ht:bK kind ok l=.ok (t,l')):lN l':=by
 cases l with
 |nil=>cases ht
 |cons a r=>
  unfold bK at ht
  by_cases hf:oJ kind (ok a) a=true
  ·simp only[hf,if_true] at ht
   obtain⟨rfl,rfl⟩:a=t∧(if kind=5 then a::r else r)=l':=by cases ht;exact⟨rfl,rfl⟩
   by_cases h5:kind=5
   ·rw[if_pos h5];exact h
   ·rw[if_neg h5]
    obtain⟨i,e,hi,he⟩:=h
    cases i with
    |nil=>
     simp at hi
     have:a.k=kind:=by simp[oJ] at hf;exact hf.1
     rw[hi.1,he] at this
     exact absurd this.symm h5
    |cons b i=>
     simp at hi
     exact⟨i,e,hi.2,he⟩
  ·simp only[hf] at ht
   cases ht
end Go.Proofs.YtlibhkkckgkkkaaGreatDoor.Tf
namespace Go.Proofs.YtlibhkkckgkkkaaGreatDoor.Tf
open Go.RowKit Go.Proofs.YtlibhkkckgkkkaaGreatDoor.Mem Go.Proofs.YtlibhkkckgkkkaaGreatDoor.Boo Go.Proofs.Tryz
def eI (W:World) (X:Nat) (k n:Int) (s:ByteArray) (A:Option Addr) (m c:Nat):Prop:=W.heap[X]?=some (.cells #[.int .i64 k,.int .i64 n,.string s,.slice A m c] 51 (0,0))
def sZ (w:World) (P g X:Nat) (k:Int) (A:Option Addr) (m c:Nat):PR (Int×ByteArray)→Ending→World→Prop
 |.ok ((n,s),l),e,w'=>(∃v,e=.returned v)∧PS w' P g l∧eI w' X k n s A m c∧Fr [P,X] w w'
 |.error (er,a),e,w'=>e=iO er a∧Fr [P,X] w w'
theorem sG (P g:Nat) (l:List Tok) (hl:l≠[]) (kind m:Int) (b:Nat) (W:World) (h:PS W P g l) (hc:W.cell? ⟨b,0,none⟩=some (.int .i64 m)):
 Calls prog 42 #[.pointer (some ⟨P,0,none⟩),.int .i64 kind,.func (.func 163) #[] #[.pointer (some ⟨b,0,none⟩)]] W (gI W P g (fun t e _=>e=.returned t.v) (bK kind (fun t=>decide (t.n≤m)) l)):=
 gV P g l hl kind _ 163 _ W aQl h (fun t _ W2 hb=>aM8 t m b W2 ((hb.cell (p:=⟨b,0,none⟩) (bL W ⟨b,0,none⟩ hc)).trans hc))
theorem eI.cells {W:World} {X:Nat} {k n:Int} {s:ByteArray} {A:Option Addr} {m c:Nat} (h:eI W X k n s A m c):
 W.cell? ⟨X,0,none⟩=some (.int .i64 k)∧W.cell? ⟨X,1,none⟩=some (.int .i64 n)∧W.cell? ⟨X,2,none⟩=some (.string s)∧W.cell? ⟨X,3,none⟩=some (.slice A m c)∧(∀o,W.frozen? ⟨X,o,none⟩=false)∧X<W.heap.size:=
 ⟨aA h 0,aA h 1,aA h 2,aA h 3,fun o=>by simp[World.frozen?,show W.heap[X]?=_ from h],(gLt h)⟩
theorem eI.onBelow {W W':World} {X:Nat} {k n:Int} {s:ByteArray} {A:Option Addr} {m c:Nat} (h:eI W X k n s A m c) (hb:Below W.heap.size W W'):eI W' X k n s A m c:=
 (hb.block X (gLt h)).trans h
theorem eI.fr {W W':World} {X P:Nat} {k n:Int} {s:ByteArray} {A:Option Addr} {m c:Nat} (h:eI W X k n s A m c) (hf:Fr [P] W W') (hne:X≠P):eI W' X k n s A m c:=
 (hf.block X (gLt h) (by simpa using hne)).trans h
theorem aE (W:World) (b i:Nat) (cs:Array Value) (t:TypeId) (u:Value) (h:W.heap[b]?=some (.cells cs t (0,0))):(W.setCell ⟨b,i,none⟩ u).heap[b]?=some (.cells (cs.setIfInBounds i u) t (0,0)):=by
 obtain⟨hlt,hk⟩:=Array.getElem?_eq_some_iff.1 h
 show(W.heap.modify b _)[b]?=_
 rw[Array.getElem?_modify,if_pos rfl,h]
 rfl
theorem eI.setN {W:World} {X:Nat} {k n:Int} {s:ByteArray} {A:Option Addr} {m c:Nat} (h:eI W X k n s A m c) (n':Int):eI (W.setCell ⟨X,1,none⟩ (.int .i64 n')) X k n' s A m c:=aE W X 1 _ 51 _ h
theorem eI.setS {W:World} {X:Nat} {k n:Int} {s:ByteArray} {A:Option Addr} {m c:Nat} (h:eI W X k n s A m c) (s':ByteArray):eI (W.setCell ⟨X,2,none⟩ (.string s')) X k n s' A m c:=aE W X 2 _ 51 _ h
theorem Fr.wide {P X:Nat} {w w':World} (h:Fr [P] w w'):Fr [P,X] w w':=⟨h.os,h.tape,h.output,h.size,fun k hk hm=>h.block k hk (fun e=>hm (by simp at e;simp[e]))⟩
theorem Fr.setX {P X:Nat} {w w':World} (h:Fr [P,X] w w') (i:Nat) (u:Value):Fr [P,X] w (w'.setCell ⟨X,i,none⟩ u):=h.set (.inl (by simp)) u
theorem aBi (k n a:Int) (s:ByteArray) (W:World):(Instr.field 92 (.agg #[.int .i64 k,.string s,.int .i64 n,.int .i64 a]) 2).run prog W=.ok (.int .i64 n) W:=by kernel_rfl
theorem aQ6 (k n a:Int) (s:ByteArray) (W:World):(Instr.field 92 (.agg #[.int .i64 k,.string s,.int .i64 n,.int .i64 a]) 1).run prog W=.ok (.string s) W:=by kernel_rfl
theorem aDg (P g X:Nat) (l:List Tok) (k:Int) (A:Option Addr) (m c:Nat) (w:World) (h:PS w P g l) (hb:eI w X k 0 ⟨#[]⟩ A m c) (hk:k≠3∧k≠5∧k≠6∧k≠11):
 Calls prog 92 #[.pointer (some ⟨P,0,none⟩),.pointer (some ⟨X,0,none⟩)] w (sZ w P g X k A m c (dH k l)):=by
 have E:dH k l=.ok ((0,⟨#[]⟩),l):=by simp[dH,hk]
 rw[E]
 obtain⟨x0,x1,x2,x3,xf,xl⟩:=hb.cells
 obtain⟨k1,k2,k3,k4⟩:=hk
 have HFO:=Hd (fun W=>cZ k W)
 have HPS:=Hd h
 have HBX:=Hd hb
 clear h hb E
 go_enter func92,ntmps92
 go_wp2_with (go_at_call 161;go_must (refine(HFO.out _).mono ?_;rintro e W2 ⟨rfl,hb⟩;(obtain⟨⟨kc1_0_0,kc1_0_1,kc1_0_2,kc1_0_3⟩,kl1_0⟩:=kn4 hb X (.int .i64 k) (.int .i64 0) (.string ⟨#[]⟩) (.slice A m c));have HB2:=Hd hb;clear hb))
 go_end0
 exact⟨⟨_,rfl⟩,HPS.out.below blw,HBX.out.onBelow blw,Fr.of_below blw _⟩
theorem aDh (P g X:Nat) (l:List Tok) (hl:l≠[]) (A:Option Addr) (m c:Nat) (w:World) (h:PS w P g l) (hb:eI w X 11 0 ⟨#[]⟩ A m c) (hXP:X≠P) (hXg:X≠g):
 Calls prog 92 #[.pointer (some ⟨P,0,none⟩),.pointer (some ⟨X,0,none⟩)] w (sZ w P g X 11 A m c (dH 11 l)):=by
 obtain⟨k,hk⟩:∃k:Int,k=11:=⟨_,rfl⟩
 have E:Hid (dH 11 l=match bK 2 (fun t=>decide (t.n≤aO 11)) l with
  |.error e=>.error e
  |.ok (t,l1)=>.ok ((t.n,⟨#[]⟩),l1)):=Hd rfl
 have HTK:Hid (∀W b,PS W P g l→W.cell? ⟨b,0,none⟩=some (.int .i64 (aO 11))→Calls prog 42 #[.pointer (some ⟨P,0,none⟩),.int .i64 2,.func (.func 163) #[] #[.pointer (some ⟨b,0,none⟩)]] W (gI W P g (fun t e _=>e=.returned t.v) (bK 2 (fun t=>decide (t.n≤aO 11)) l))):=Hd (fun W b h1 h2=>sG P g l hl 2 _ b W h1 h2)
 obtain⟨x0,x1,x2,x3,xf,xl⟩:=hb.cells
 have HFO:=Hd (fun W=>cZ 11 W)
 have HPS:=Hd h
 have HBX:=Hd hb
 generalize dH 11 l=y at E ⊢
 generalize bK 2 (fun t=>decide (t.n≤aO 11)) l=x at E HTK
 clear h hb hk k hl
 rcases x with⟨er,a⟩|⟨⟨tk,ts,tn,ta⟩,l'⟩
 ·obtain rfl:=E.out
  go_enter func92,ntmps92
  go_wp2_with (first
   |(go_at_call 161;go_must (refine(HFO.out _).mono ?_;rintro e W2 ⟨rfl,hb⟩;have hbx:=HBX.out.onBelow hb;obtain⟨y0,y1,y2,y3,yf,yl⟩:=hbx.cells;have HBX2:=Hd (hbx.onBelow (aB bR (.cells #[.int .i64 (aO 11)] 3)));have HPS2:=Hd ((HPS.out.below hb).below (aB bR (.cells #[.int .i64 (aO 11)] 3)));have HB2:Hid (Below w.heap.size w (W2.alloc (.cells #[.int .i64 (aO 11)] 3))):=Hd (aB hb _);clear hb hbx))
   |(go_at_call 42;go_must (refine(HTK.out _ _ HPS2.out (by go_simp)).mono ?_;rintro e W3 ⟨rfl,hf⟩;have HF:=Hd hf;clear hf)))
  exact⟨rfl,rfl,(Fr.of_below_then HB2.out HF.out).wide⟩
 ·obtain rfl:=E.out
  have HTK2:Hid (∀W b,PS W P g l→W.cell? ⟨b,0,none⟩=some (.int .i64 (aO 11))→Calls prog 42 #[.pointer (some ⟨P,0,none⟩),.int .i64 2,.func (.func 163) #[] #[.pointer (some ⟨b,0,none⟩)]] W fun e w'=>e=.returned (.agg #[.int .i64 tk,.string ts,.int .i64 tn,.int .i64 ta])∧eH W P g l' w'):=HTK
  clear HTK
  have F1:=aBi tk tn ta ts
  go_enter func92,ntmps92
  go_wp2_with (first
   |(go_at_call 161;go_must (refine(HFO.out _).mono ?_;rintro e W2 ⟨rfl,hb⟩;have hbx:=HBX.out.onBelow hb;obtain⟨y0,y1,y2,y3,yf,yl⟩:=hbx.cells;have HBX2:=Hd (hbx.onBelow (aB bR (.cells #[.int .i64 (aO 11)] 3)));have HPS2:=Hd ((HPS.out.below hb).below (aB bR (.cells #[.int .i64 (aO 11)] 3)));have HB2:Hid (Below w.heap.size w (W2.alloc (.cells #[.int .i64 (aO 11)] 3))):=Hd (aB hb _);clear hb hbx))
   |(go_at_call 42;go_must (refine(HTK2.out _ _ HPS2.out (by go_simp)).mono ?_;rintro e W3 ⟨rfl,hf⟩;have hbx:=HBX2.out.fr hf.2 hXP;obtain⟨z0,z1,z2,z3,zf,zl⟩:=hbx.cells;have HBX3:=Hd hbx;have HF:=Hd hf;clear hf hbx)))
  go_end0
  exact⟨⟨_,rfl⟩,HF.out.1.set (p:=⟨X,1,none⟩) (fun e=>hXP e.symm) (fun e=>hXg e.symm) _,HBX3.out.setN tn,((Fr.of_below_then HB2.out HF.out.2).wide).setX 1 _⟩
theorem aO1 (P g X:Nat) (l:List Tok) (hl:lN l) (A:Option Addr) (m c:Nat) (w:World) (h:PS w P g l) (hb:eI w X 5 0 ⟨#[]⟩ A m c) (hXP:X≠P) (hXg:X≠g):
 Calls prog 92 #[.pointer (some ⟨P,0,none⟩),.pointer (some ⟨X,0,none⟩)] w (sZ w P g X 5 A m c (dH 5 l)):=by
 have E:Hid (dH 5 l=match bM iN l with
  |.error e=>.error e
  |.ok (_,l1)=>sX 3 (aO 5) l1):=Hd rfl
 have HSG:Hid (∀W,PS W P g l→Calls prog 90 #[.pointer (some ⟨P,0,none⟩),.string ⟨#[44]⟩] W (gI W P g (fun _ e _=>∃v,e=.returned v) (bM iN l))):=Hd (fun W h1=>lT P g l hl.ne iN W h1)
 obtain⟨x0,x1,x2,x3,xf,xl⟩:=hb.cells
 have hPl:P<w.heap.size:=by obtain⟨o,q,hp,_⟩:=h;exact(gLt hp)
 have HPl:=Hd hPl
 have HFO:=Hd (fun W=>cZ 5 W)
 have HPS:=Hd h
 have HBX:=Hd hb
 have HEnd:Hid (∀t l1,bM iN l=.ok (t,l1)→lN l1):=Hd (fun t l1 e=>rF hl e)
 generalize dH 5 l=y at E ⊢
 generalize bM iN l=x at E HSG HEnd
 clear h hb hl hPl
 rcases x with⟨er,a⟩|⟨t0,l1⟩
 ·obtain rfl:=E.out
  go_enter func92,ntmps92
  go_wp2_with (first
   |(go_at_call 161;go_must (refine(HFO.out _).mono ?_;rintro e W2 ⟨rfl,hb⟩;have hbx:=HBX.out.onBelow hb;obtain⟨y0,y1,y2,y3,yf,yl⟩:=hbx.cells;have HBX2:=Hd (hbx.onBelow (aB bR (.cells #[.int .i64 (aO 5)] 3)));have HPS2:=Hd ((HPS.out.below hb).below (aB bR (.cells #[.int .i64 (aO 5)] 3)));have HB2:Hid (Below w.heap.size w (W2.alloc (.cells #[.int .i64 (aO 5)] 3))):=Hd (aB hb _);have hcm:=aA (aN W2 (.cells #[.int .i64 (aO 5)] 3)) 0;have HCM:=Hd (show(W2.alloc (.cells #[.int .i64 (aO 5)] 3)).cell? ⟨W2.heap.size,0,none⟩=some (.int .i64 (aO 5)) from hcm);have HW2:Hid (W2.heap.size<(W2.alloc (.cells #[.int .i64 (aO 5)] 3)).heap.size):=Hd (by simp);clear hb hbx hcm))
   |(go_at_call 90;go_must (refine(HSG.out _ HPS2.out).mono ?_;rintro e W3 ⟨rfl,hf⟩;have HF:=Hd hf;clear hf)))
  exact⟨rfl,rfl,(Fr.of_below_then HB2.out HF.out).wide⟩
 ·have hl1:=HEnd.out t0 l1 rfl
  have HTK:Hid (∀W b,PS W P g l1→W.cell? ⟨b,0,none⟩=some (.int .i64 (aO 5))→Calls prog 42 #[.pointer (some ⟨P,0,none⟩),.int .i64 3,.func (.func 163) #[] #[.pointer (some ⟨b,0,none⟩)]] W (gI W P g (fun t e _=>e=.returned t.v) (bK 3 (fun t=>decide (t.n≤aO 5)) l1))):=Hd (fun W b h1 h2=>sG P g l1 hl1.ne 3 _ b W h1 h2)
  have HSG2:Hid (∀W,PS W P g l→Calls prog 90 #[.pointer (some ⟨P,0,none⟩),.string ⟨#[44]⟩] W fun e w'=>(∃v,e=.returned v)∧eH W P g l1 w'):=HSG
  have E2:Hid (y=match bK 3 (fun t=>decide (t.n≤aO 5)) l1 with
   |.error e=>.error e
   |.ok (t,l2)=>.ok ((t.n,⟨#[]⟩),l2)):=Hd E.out
  have HBP:Hid (∀W2:World,Hid (Below w.heap.size w W2)→W2.heap.size∉[P]):=Hd (fun W2 h1=>by
   have h2:=h1.out.size
   have h3:=HPl.out
   simp
   omega)
  generalize bK 3 (fun t=>decide (t.n≤aO 5)) l1=x2 at E2 HTK
  clear hl1 E HSG HEnd
  rcases x2 with⟨er,a⟩|⟨⟨tk,ts,tn,ta⟩,l2⟩
  ·obtain rfl:=E2.out
   go_enter func92,ntmps92
   go_wp2_with (first
    |(go_at_call 161;go_must (refine(HFO.out _).mono ?_;rintro e W2 ⟨rfl,hb⟩;have hbx:=HBX.out.onBelow hb;obtain⟨y0,y1,y2,y3,yf,yl⟩:=hbx.cells;have HBX2:=Hd (hbx.onBelow (aB bR (.cells #[.int .i64 (aO 5)] 3)));have HPS2:=Hd ((HPS.out.below hb).below (aB bR (.cells #[.int .i64 (aO 5)] 3)));have HB2:Hid (Below w.heap.size w (W2.alloc (.cells #[.int .i64 (aO 5)] 3))):=Hd (aB hb _);have hcm:=aA (aN W2 (.cells #[.int .i64 (aO 5)] 3)) 0;have HCM:=Hd (show(W2.alloc (.cells #[.int .i64 (aO 5)] 3)).cell? ⟨W2.heap.size,0,none⟩=some (.int .i64 (aO 5)) from hcm);have HW2:Hid (W2.heap.size<(W2.alloc (.cells #[.int .i64 (aO 5)] 3)).heap.size):=Hd (by simp);have HW2P:=Hd hb;clear hb hbx hcm))
    |(go_at_call 90;go_must (refine(HSG2.out _ HPS2.out).mono ?_;rintro e W3 ⟨⟨v3,rfl⟩,hf⟩;have hbx:=HBX2.out.fr hf.2 hXP;obtain⟨z0,z1,z2,z3,zf,zl⟩:=hbx.cells;have HBX3:=Hd hbx;have HF:=Hd hf;have HC3:=Hd ((hf.2.cell (p:=⟨W2.heap.size,0,none⟩) HW2.out (HBP.out _ HW2P)).trans HCM.out);clear hf hbx))
    |(go_at_call 42;go_must (refine(HTK.out _ _ HF.out.1 HC3.out).mono ?_;rintro e W4 ⟨rfl,hf⟩;have HF2:=Hd hf;clear hf)))
   exact⟨rfl,rfl,(Fr.of_below_then HB2.out (HF.out.2.step HF2.out (New.refl _ _))).wide⟩
  ·obtain rfl:=E2.out
   have HTK2:Hid (∀W b,PS W P g l1→W.cell? ⟨b,0,none⟩=some (.int .i64 (aO 5))→Calls prog 42 #[.pointer (some ⟨P,0,none⟩),.int .i64 3,.func (.func 163) #[] #[.pointer (some ⟨b,0,none⟩)]] W fun e w'=>e=.returned (.agg #[.int .i64 tk,.string ts,.int .i64 tn,.int .i64 ta])∧eH W P g l2 w'):=HTK
   have F1:=aBi tk tn ta ts
   clear HTK
   go_enter func92,ntmps92
   go_wp2_with (first
    |(go_at_call 161;go_must (refine(HFO.out _).mono ?_;rintro e W2 ⟨rfl,hb⟩;have hbx:=HBX.out.onBelow hb;obtain⟨y0,y1,y2,y3,yf,yl⟩:=hbx.cells;have HBX2:=Hd (hbx.onBelow (aB bR (.cells #[.int .i64 (aO 5)] 3)));have HPS2:=Hd ((HPS.out.below hb).below (aB bR (.cells #[.int .i64 (aO 5)] 3)));have HB2:Hid (Below w.heap.size w (W2.alloc (.cells #[.int .i64 (aO 5)] 3))):=Hd (aB hb _);have hcm:=aA (aN W2 (.cells #[.int .i64 (aO 5)] 3)) 0;have HCM:=Hd (show(W2.alloc (.cells #[.int .i64 (aO 5)] 3)).cell? ⟨W2.heap.size,0,none⟩=some (.int .i64 (aO 5)) from hcm);have HW2:Hid (W2.heap.size<(W2.alloc (.cells #[.int .i64 (aO 5)] 3)).heap.size):=Hd (by simp);have HW2P:=Hd hb;clear hb hbx hcm))
    |(go_at_call 90;go_must (refine(HSG2.out _ HPS2.out).mono ?_;rintro e W3 ⟨⟨v3,rfl⟩,hf⟩;have hbx:=HBX2.out.fr hf.2 hXP;obtain⟨z0,z1,z2,z3,zf,zl⟩:=hbx.cells;have HBX3:=Hd hbx;have HF:=Hd hf;have HC3:=Hd ((hf.2.cell (p:=⟨W2.heap.size,0,none⟩) HW2.out (HBP.out _ HW2P)).trans HCM.out);clear hf hbx))
    |(go_at_call 42;go_must (refine(HTK2.out _ _ HF.out.1 HC3.out).mono ?_;rintro e W4 ⟨rfl,hf⟩;have hbx:=HBX3.out.fr hf.2 hXP;obtain⟨u0,u1,u2,u3,uf,ul⟩:=hbx.cells;have HBX4:=Hd hbx;have HF2:=Hd hf;clear hf hbx)))
   go_end0
   exact⟨⟨_,rfl⟩,HF2.out.1.set (p:=⟨X,1,none⟩) (fun e=>hXP e.symm) (fun e=>hXg e.symm) _,HBX4.out.setN tn,((Fr.of_below_then HB2.out (HF.out.2.step HF2.out.2 (New.refl _ _))).wide).setX 1 _⟩
theorem aO0 (P g X:Nat) (l:List Tok) (hl:lN l) (A:Option Addr) (m c:Nat) (w:World) (h:PS w P g l) (hb:eI w X 6 0 ⟨#[]⟩ A m c) (hXP:X≠P) (hXg:X≠g):
 Calls prog 92 #[.pointer (some ⟨P,0,none⟩),.pointer (some ⟨X,0,none⟩)] w (sZ w P g X 6 A m c (dH 6 l)):=by
 have E:Hid (dH 6 l=match bM iN l with
  |.error e=>.error e
  |.ok (_,l1)=>sX 2 (aO 6) l1):=Hd rfl
 have HSG:Hid (∀W,PS W P g l→Calls prog 90 #[.pointer (some ⟨P,0,none⟩),.string ⟨#[44]⟩] W (gI W P g (fun _ e _=>∃v,e=.returned v) (bM iN l))):=Hd (fun W h1=>lT P g l hl.ne iN W h1)
 obtain⟨x0,x1,x2,x3,xf,xl⟩:=hb.cells
 have hPl:P<w.heap.size:=by obtain⟨o,q,hp,_⟩:=h;exact(gLt hp)
 have HPl:=Hd hPl
 have HFO:=Hd (fun W=>cZ 6 W)
 have HPS:=Hd h
 have HBX:=Hd hb
 have HEnd:Hid (∀t l1,bM iN l=.ok (t,l1)→lN l1):=Hd (fun t l1 e=>rF hl e)
 generalize dH 6 l=y at E ⊢
 generalize bM iN l=x at E HSG HEnd
 clear h hb hl hPl
 rcases x with⟨er,a⟩|⟨t0,l1⟩
 ·obtain rfl:=E.out
  go_enter func92,ntmps92
  go_wp2_with (first
   |(go_at_call 161;go_must (refine(HFO.out _).mono ?_;rintro e W2 ⟨rfl,hb⟩;have hbx:=HBX.out.onBelow hb;obtain⟨y0,y1,y2,y3,yf,yl⟩:=hbx.cells;have HBX2:=Hd (hbx.onBelow (aB bR (.cells #[.int .i64 (aO 6)] 3)));have HPS2:=Hd ((HPS.out.below hb).below (aB bR (.cells #[.int .i64 (aO 6)] 3)));have HB2:Hid (Below w.heap.size w (W2.alloc (.cells #[.int .i64 (aO 6)] 3))):=Hd (aB hb _);have hcm:=aA (aN W2 (.cells #[.int .i64 (aO 6)] 3)) 0;have HCM:=Hd (show(W2.alloc (.cells #[.int .i64 (aO 6)] 3)).cell? ⟨W2.heap.size,0,none⟩=some (.int .i64 (aO 6)) from hcm);have HW2:Hid (W2.heap.size<(W2.alloc (.cells #[.int .i64 (aO 6)] 3)).heap.size):=Hd (by simp);clear hb hbx hcm))
   |(go_at_call 90;go_must (refine(HSG.out _ HPS2.out).mono ?_;rintro e W3 ⟨rfl,hf⟩;have HF:=Hd hf;clear hf)))
  exact⟨rfl,rfl,(Fr.of_below_then HB2.out HF.out).wide⟩
 ·have hl1:=HEnd.out t0 l1 rfl
  have HTK:Hid (∀W b,PS W P g l1→W.cell? ⟨b,0,none⟩=some (.int .i64 (aO 6))→Calls prog 42 #[.pointer (some ⟨P,0,none⟩),.int .i64 2,.func (.func 163) #[] #[.pointer (some ⟨b,0,none⟩)]] W (gI W P g (fun t e _=>e=.returned t.v) (bK 2 (fun t=>decide (t.n≤aO 6)) l1))):=Hd (fun W b h1 h2=>sG P g l1 hl1.ne 2 _ b W h1 h2)
  have HSG2:Hid (∀W,PS W P g l→Calls prog 90 #[.pointer (some ⟨P,0,none⟩),.string ⟨#[44]⟩] W fun e w'=>(∃v,e=.returned v)∧eH W P g l1 w'):=HSG
  have E2:Hid (y=match bK 2 (fun t=>decide (t.n≤aO 6)) l1 with
   |.error e=>.error e
   |.ok (t,l2)=>.ok ((t.n,⟨#[]⟩),l2)):=Hd E.out
  have HBP:Hid (∀W2:World,Hid (Below w.heap.size w W2)→W2.heap.size∉[P]):=Hd (fun W2 h1=>by
   have h2:=h1.out.size
   have h3:=HPl.out
   simp
   omega)
  generalize bK 2 (fun t=>decide (t.n≤aO 6)) l1=x2 at E2 HTK
  clear hl1 E HSG HEnd
  rcases x2 with⟨er,a⟩|⟨⟨tk,ts,tn,ta⟩,l2⟩
  ·obtain rfl:=E2.out
   go_enter func92,ntmps92
   go_wp2_with (first
    |(go_at_call 161;go_must (refine(HFO.out _).mono ?_;rintro e W2 ⟨rfl,hb⟩;have hbx:=HBX.out.onBelow hb;obtain⟨y0,y1,y2,y3,yf,yl⟩:=hbx.cells;have HBX2:=Hd (hbx.onBelow (aB bR (.cells #[.int .i64 (aO 6)] 3)));have HPS2:=Hd ((HPS.out.below hb).below (aB bR (.cells #[.int .i64 (aO 6)] 3)));have HB2:Hid (Below w.heap.size w (W2.alloc (.cells #[.int .i64 (aO 6)] 3))):=Hd (aB hb _);have hcm:=aA (aN W2 (.cells #[.int .i64 (aO 6)] 3)) 0;have HCM:=Hd (show(W2.alloc (.cells #[.int .i64 (aO 6)] 3)).cell? ⟨W2.heap.size,0,none⟩=some (.int .i64 (aO 6)) from hcm);have HW2:Hid (W2.heap.size<(W2.alloc (.cells #[.int .i64 (aO 6)] 3)).heap.size):=Hd (by simp);have HW2P:=Hd hb;clear hb hbx hcm))
    |(go_at_call 90;go_must (refine(HSG2.out _ HPS2.out).mono ?_;rintro e W3 ⟨⟨v3,rfl⟩,hf⟩;have hbx:=HBX2.out.fr hf.2 hXP;obtain⟨z0,z1,z2,z3,zf,zl⟩:=hbx.cells;have HBX3:=Hd hbx;have HF:=Hd hf;have HC3:=Hd ((hf.2.cell (p:=⟨W2.heap.size,0,none⟩) HW2.out (HBP.out _ HW2P)).trans HCM.out);clear hf hbx))
    |(go_at_call 42;go_must (refine(HTK.out _ _ HF.out.1 HC3.out).mono ?_;rintro e W4 ⟨rfl,hf⟩;have HF2:=Hd hf;clear hf)))
   exact⟨rfl,rfl,(Fr.of_below_then HB2.out (HF.out.2.step HF2.out (New.refl _ _))).wide⟩
  ·obtain rfl:=E2.out
   have HTK2:Hid (∀W b,PS W P g l1→W.cell? ⟨b,0,none⟩=some (.int .i64 (aO 6))→Calls prog 42 #[.pointer (some ⟨P,0,none⟩),.int .i64 2,.func (.func 163) #[] #[.pointer (some ⟨b,0,none⟩)]] W fun e w'=>e=.returned (.agg #[.int .i64 tk,.string ts,.int .i64 tn,.int .i64 ta])∧eH W P g l2 w'):=HTK
   have F1:=aBi tk tn ta ts
   clear HTK
   go_enter func92,ntmps92
   go_wp2_with (first
    |(go_at_call 161;go_must (refine(HFO.out _).mono ?_;rintro e W2 ⟨rfl,hb⟩;have hbx:=HBX.out.onBelow hb;obtain⟨y0,y1,y2,y3,yf,yl⟩:=hbx.cells;have HBX2:=Hd (hbx.onBelow (aB bR (.cells #[.int .i64 (aO 6)] 3)));have HPS2:=Hd ((HPS.out.below hb).below (aB bR (.cells #[.int .i64 (aO 6)] 3)));have HB2:Hid (Below w.heap.size w (W2.alloc (.cells #[.int .i64 (aO 6)] 3))):=Hd (aB hb _);have hcm:=aA (aN W2 (.cells #[.int .i64 (aO 6)] 3)) 0;have HCM:=Hd (show(W2.alloc (.cells #[.int .i64 (aO 6)] 3)).cell? ⟨W2.heap.size,0,none⟩=some (.int .i64 (aO 6)) from hcm);have HW2:Hid (W2.heap.size<(W2.alloc (.cells #[.int .i64 (aO 6)] 3)).heap.size):=Hd (by simp);have HW2P:=Hd hb;clear hb hbx hcm))
    |(go_at_call 90;go_must (refine(HSG2.out _ HPS2.out).mono ?_;rintro e W3 ⟨⟨v3,rfl⟩,hf⟩;have hbx:=HBX2.out.fr hf.2 hXP;obtain⟨z0,z1,z2,z3,zf,zl⟩:=hbx.cells;have HBX3:=Hd hbx;have HF:=Hd hf;have HC3:=Hd ((hf.2.cell (p:=⟨W2.heap.size,0,none⟩) HW2.out (HBP.out _ HW2P)).trans HCM.out);clear hf hbx))
    |(go_at_call 42;go_must (refine(HTK2.out _ _ HF.out.1 HC3.out).mono ?_;rintro e W4 ⟨rfl,hf⟩;have hbx:=HBX3.out.fr hf.2 hXP;obtain⟨u0,u1,u2,u3,uf,ul⟩:=hbx.cells;have HBX4:=Hd hbx;have HF2:=Hd hf;clear hf hbx)))
   go_end0
   exact⟨⟨_,rfl⟩,HF2.out.1.set (p:=⟨X,1,none⟩) (fun e=>hXP e.symm) (fun e=>hXg e.symm) _,HBX4.out.setN tn,((Fr.of_below_then HB2.out (HF.out.2.step HF2.out.2 (New.refl _ _))).wide).setX 1 _⟩
def yE (l:List Tok):Prop:=∀t∈l,t.s.size≤4000
theorem aO2 (P g X:Nat) (l:List Tok) (hl:lN l) (hz:yE l) (A:Option Addr) (m c:Nat) (w:World) (h:PS w P g l) (hb:eI w X 3 0 ⟨#[]⟩ A m c) (hXP:X≠P) (hXg:X≠g):
 Calls prog 92 #[.pointer (some ⟨P,0,none⟩),.pointer (some ⟨X,0,none⟩)] w (sZ w P g X 3 A m c (dH 3 l)):=by
 have E:Hid (dH 3 l=match bK 1 (fun t=>aZ t.s) l with
  |.error e=>.error e
  |.ok (t,l1)=>.ok ((0,t.s),l1)):=Hd rfl
 have HTK:Hid (∀W,PS W P g l→Calls prog 42 #[.pointer (some ⟨P,0,none⟩),.int .i64 1,.func (.func 164) #[] #[]] W (gI W P g (fun t e _=>e=.returned t.v) (bK 1 (fun t=>aZ t.s) l))):=Hd (fun W h1=>gV P g l hl.ne 1 _ 164 #[] W aQk h1 (fun t ht W2 _=>zT t W2 (by have:=hz t ht;omega)))
 obtain⟨x0,x1,x2,x3,xf,xl⟩:=hb.cells
 have HFO:=Hd (fun W=>cZ 3 W)
 have HPS:=Hd h
 have HBX:=Hd hb
 generalize dH 3 l=y at E ⊢
 generalize bK 1 (fun t=>aZ t.s) l=x at E HTK
 clear h hb hl hz
 rcases x with⟨er,a⟩|⟨⟨tk,ts,tn,ta⟩,l'⟩
 ·obtain rfl:=E.out
  go_enter func92,ntmps92
  go_wp2_with (first
   |(go_at_call 161;go_must (refine(HFO.out _).mono ?_;rintro e W2 ⟨rfl,hb⟩;have hbx:=HBX.out.onBelow hb;obtain⟨y0,y1,y2,y3,yf,yl⟩:=hbx.cells;have HBX2:=Hd (hbx.onBelow (aB bR (.cells #[.int .i64 (aO 3)] 3)));have HPS2:=Hd ((HPS.out.below hb).below (aB bR (.cells #[.int .i64 (aO 3)] 3)));have HB2:Hid (Below w.heap.size w (W2.alloc (.cells #[.int .i64 (aO 3)] 3))):=Hd (aB hb _);have hcm:=aA (aN W2 (.cells #[.int .i64 (aO 3)] 3)) 0;have HCM:=Hd (show(W2.alloc (.cells #[.int .i64 (aO 3)] 3)).cell? ⟨W2.heap.size,0,none⟩=some (.int .i64 (aO 3)) from hcm);have HW2:Hid (W2.heap.size<(W2.alloc (.cells #[.int .i64 (aO 3)] 3)).heap.size):=Hd (by simp);clear hb hbx hcm))
   |(go_at_call 42;go_must (refine(HTK.out _ HPS2.out).mono ?_;rintro e W3 ⟨rfl,hf⟩;have HF:=Hd hf;clear hf)))
  exact⟨rfl,rfl,(Fr.of_below_then HB2.out HF.out).wide⟩
 ·obtain rfl:=E.out
  have HTK2:Hid (∀W,PS W P g l→Calls prog 42 #[.pointer (some ⟨P,0,none⟩),.int .i64 1,.func (.func 164) #[] #[]] W fun e w'=>e=.returned (.agg #[.int .i64 tk,.string ts,.int .i64 tn,.int .i64 ta])∧eH W P g l' w'):=HTK
  have F1:=aQ6 tk tn ta ts
  clear HTK
  go_enter func92,ntmps92
  go_wp2_with (first
   |(go_at_call 161;go_must (refine(HFO.out _).mono ?_;rintro e W2 ⟨rfl,hb⟩;have hbx:=HBX.out.onBelow hb;obtain⟨y0,y1,y2,y3,yf,yl⟩:=hbx.cells;have HBX2:=Hd (hbx.onBelow (aB bR (.cells #[.int .i64 (aO 3)] 3)));have HPS2:=Hd ((HPS.out.below hb).below (aB bR (.cells #[.int .i64 (aO 3)] 3)));have HB2:Hid (Below w.heap.size w (W2.alloc (.cells #[.int .i64 (aO 3)] 3))):=Hd (aB hb _);have hcm:=aA (aN W2 (.cells #[.int .i64 (aO 3)] 3)) 0;have HCM:=Hd (show(W2.alloc (.cells #[.int .i64 (aO 3)] 3)).cell? ⟨W2.heap.size,0,none⟩=some (.int .i64 (aO 3)) from hcm);have HW2:Hid (W2.heap.size<(W2.alloc (.cells #[.int .i64 (aO 3)] 3)).heap.size):=Hd (by simp);clear hb hbx hcm))
   |(go_at_call 42;go_must (refine(HTK2.out _ HPS2.out).mono ?_;rintro e W3 ⟨rfl,hf⟩;have hbx:=HBX2.out.fr hf.2 hXP;obtain⟨z0,z1,z2,z3,zf,zl⟩:=hbx.cells;have HBX3:=Hd hbx;have HF:=Hd hf;clear hf hbx)))
  go_end0
  exact⟨⟨_,rfl⟩,HF.out.1.set (p:=⟨X,2,none⟩) (fun e=>hXP e.symm) (fun e=>hXg e.symm) _,HBX3.out.setS ts,((Fr.of_below_then HB2.out HF.out.2).wide).setX 2 _⟩
theorem aGo (P g X:Nat) (l:List Tok) (hl:lN l) (hz:yE l) (k:Int) (A:Option Addr) (m c:Nat) (w:World) (h:PS w P g l) (hb:eI w X k 0 ⟨#[]⟩ A m c) (hXP:X≠P) (hXg:X≠g):
 Calls prog 92 #[.pointer (some ⟨P,0,none⟩),.pointer (some ⟨X,0,none⟩)] w (sZ w P g X k A m c (dH k l)):=by
 by_cases h3:k=3
 ·subst h3;exact aO2 P g X l hl hz A m c w h hb hXP hXg
 by_cases h5:k=5
 ·subst h5;exact aO1 P g X l hl A m c w h hb hXP hXg
 by_cases h6:k=6
 ·subst h6;exact aO0 P g X l hl A m c w h hb hXP hXg
 by_cases h11:k=11
 ·subst h11;exact aDh P g X l hl.ne A m c w h hb hXP hXg
 ·exact aDg P g X l k A m c w h hb ⟨h3,h5,h6,h11⟩
def gT (l:List Tok):Prop:=lN l∧yE l
theorem yQ {kind:Int} {ok:Tok→Bool} {l l':List Tok} {t:Tok} (h:yE l) (ht:bK kind ok l=.ok (t,l')):yE l':=by
 cases l with
 |nil=>cases ht
 |cons a r=>
  unfold bK at ht
  by_cases hf:oJ kind (ok a) a=true
  ·simp only[hf,if_true] at ht
   obtain⟨rfl,rfl⟩:a=t∧(if kind=5 then a::r else r)=l':=by cases ht;exact⟨rfl,rfl⟩
   by_cases h5:kind=5
   ·rw[if_pos h5];exact h
   ·rw[if_neg h5];exact fun x hx=>h x (List.mem_cons_of_mem _ hx)
  ·simp only[hf] at ht
   cases ht
theorem dP {kind:Int} {ok:Tok→Bool} {l l':List Tok} {t:Tok} (h:gT l) (ht:bK kind ok l=.ok (t,l')):gT l':=⟨rF h.1 ht,yQ h.2 ht⟩
theorem rW {kind most:Int} {l l':List Tok} {x:Int×ByteArray} (h:gT l) (ht:sX kind most l=.ok (x,l')):gT l':=by
 unfold sX at ht
 split at ht
 ·cases ht
 ·rename_i t l1 he
  cases ht
  exact dP h he
theorem tL {k:Int} {l l':List Tok} {x:Int×ByteArray} (h:gT l) (ht:dH k l=.ok (x,l')):gT l':=by
 unfold dH at ht
 split at ht
 ·split at ht
  ·cases ht
  ·rename_i t l1 he
   cases ht
   exact dP h he
 ·split at ht
  ·split at ht
   ·cases ht
   ·rename_i t l1 he
    exact rW (dP h he) ht
  ·split at ht
   ·split at ht
    ·cases ht
    ·rename_i t l1 he
     exact rW (dP h he) ht
   ·split at ht
    ·exact rW h ht
    ·cases ht;exact h
end Go.Proofs.YtlibhkkckgkkkaaGreatDoor.Tf
namespace Go.Proofs.YtlibhkkckgkkkaaGreatDoor.Tf
open Go.RowKit Go.Proofs.YtlibhkkckgkkkaaGreatDoor.Mem Go.Proofs.YtlibhkkckgkkkaaGreatDoor.Boo
def mS (w:World) (P g:Nat):PR Ex→Ending→World→Prop:=gI w P g (fun x e w'=>∃v:EV,e=.returned (.agg #[.int .i64 v.k,.int .i64 v.n,.string v.s,.slice v.A v.m v.c])∧bB (fun b=>w.heap.size≤b) w' x v)
def iW (S:Nat→Prop) (W:World) (xs:List Ex) (vs:List EV):Prop:=xs.length=vs.length∧∀(j:Nat) (x:Ex) (v:EV),xs[j]?=some x→vs[j]?=some v→bB S W x v
def AOut (w:World) (P g:Nat):PR (List Ex)→Ending→World→Prop:=gI w P g (fun xs e w'=>∃A c vs,e=.returned (.slice A xs.length c)∧dX.Own 51 w' w.heap.size A c vs∧iW (fun b=>w.heap.size≤b) w' xs vs)
def pL (xs:List Ex):PR (List Ex)→PR (List Ex)
 |.error e=>.error e
 |.ok (ys,l)=>.ok (xs++ys,l)
theorem aIf (r:PR (List Ex)):pL [] r=r:=by
 rcases r with e|⟨ys,l⟩ <;> rfl
theorem zV:(Tryz.prog.info? 51).map (fun i=>(i.zero,i.size,i.bytes))=some (some (.agg #[.int .i64 0,.int .i64 0,.string ⟨#[]⟩,.slice none 0 0]),4,56):=by kernel_rfl
theorem iW.snoc {S S':Nat→Prop} {W W':World} {xs:List Ex} {vs:List EV} {x:Ex} {v:EV} (h:iW S W xs vs) (hx:bB S' W' x v) (h1:∀b,S b→b<W.heap.size→W'.heap[b]?=W.heap[b]?) (h2:∀b,S b→b<W.heap.size→S' b):iW S' W' (xs++[x]) (vs++[v]):=by
 refine⟨by simp[h.1],fun j y u hy hu=>?_⟩
 rcases Nat.lt_or_ge j xs.length with hj|hj
 ·rw[List.getElem?_append_left hj] at hy
  rw[List.getElem?_append_left (by rw[←h.1];exact hj)] at hu
  exact((h.2 j y u hy hu).mono (S':=fun b=>S b∧b<W.heap.size) (fun _ hb hl=>⟨hb,hl⟩)).keep (fun b hb _=>h1 b hb.1 hb.2) |>.mono (fun b hb _=>h2 b hb.1 hb.2)
 ·rw[List.getElem?_append_right hj] at hy
  rw[List.getElem?_append_right (by rw[←h.1];exact hj),←h.1] at hu
  rcases hq:j-xs.length with _|q
  ·rw[hq] at hy hu
   simp at hy hu
   rw[←hy,←hu];exact hx
  ·rw[hq] at hy
   simp at hy
theorem iW.keep {S S':Nat→Prop} {W W':World} {xs:List Ex} {vs:List EV} (h:iW S W xs vs) (h1:∀b,S b→b<W.heap.size→W'.heap[b]?=W.heap[b]?) (h2:∀b,S b→b<W.heap.size→S' b):iW S' W' xs vs:=
 ⟨h.1,fun j y u hy hu=>((h.2 j y u hy hu).mono (S':=fun b=>S b∧b<W.heap.size) (fun _ hb hl=>⟨hb,hl⟩)).keep (fun b hb _=>h1 b hb.1 hb.2) |>.mono (fun b hb _=>h2 b hb.1 hb.2)⟩
end Go.Proofs.YtlibhkkckgkkkaaGreatDoor.Tf
namespace Go.Proofs.YtlibhkkckgkkkaaGreatDoor.Tf
open Go.RowKit Go.Proofs.YtlibhkkckgkkkaaGreatDoor.Mem Go.Proofs.YtlibhkkckgkkkaaGreatDoor.Boo Go.Proofs.Tryz
theorem jP (W:World) (v:EV):dX.At (W.alloc (.cells #[.int .i64 v.k,.int .i64 v.n,.string v.s,.slice v.A v.m v.c] 51)) (some ⟨W.heap.size,0,none⟩) 1 [v]:=by
 refine⟨nR,by omega,(fun h=>absurd h (by simp)),fun _=>⟨W.heap.size,0,rfl,(by simp),fun i hi=>?_⟩⟩
 rw[Nat.zero_add,aA (aN W _) i]
 simp[En.cs,dX]
theorem uR {α:Type} {d:En α} {e:TypeId} {w W:World} {base c P:Nat} {A:Option Addr} {xs:List α} (h:d.Own e w base A c xs) (hf:Fr [P] w W) (hP:P<base):d.Own e W base A c xs:=by
 refine⟨h.1,?_⟩
 rcases h.2 with h2|⟨q,cap,cur,h2,h3,h4,h5⟩
 ·exact .inl h2
 ·refine .inr ⟨q,cap,cur,h2,h3,(hf.block q (gLt h4) ?_).trans h4,h5⟩
  simp
  omega
theorem aO7 {α:Type} {d:En α} {e:TypeId} {w:World} {base c n:Nat} {A:Option Addr} {xs:List α} (h:d.Own e w base A c xs) (r:Nat) (hr:(Value.slice A n c).ownBlock=some r):base≤r∧r<w.heap.size:=by
 rcases h.2 with⟨h2,_⟩|⟨q,cap,cur,h2,h3,h4,h5⟩
 ·injection h2 with h2 _ _
  subst h2
  cases hr
 ·injection h2 with h2 _ _
  subst h2
  simp[Value.ownBlock] at hr
  subst hr
  exact⟨h3,(gLt h4)⟩
theorem mP {w wr Ws W4 w3:World} {P g i k c' c3:Nat} {A' A3:Option Addr} {vs:List EV} {xs:List Ex} {x:Ex} {v:EV} {l2:List Tok} {o:Obj} (hP:P<w.heap.size) (hg0:g<w.heap.size) (HFR:Fr [P] w wr)
 (HO:dX.Own 51 wr w.heap.size A' c' vs) (HTS:iW (fun b=>w.heap.size≤b∧(Value.slice A' i c').ownBlock≠some b) wr xs vs) (hf1:Fr [P] wr Ws) (hl2:eH Ws P g l2 W4) (ht:bB (fun b=>Ws.heap.size≤b) W4 x v)
 (hg:(W4.alloc o).grownBy w3 (Value.slice A' i c').ownBlock) (hat:(Value.slice A3 k c3).ownBlock=(Value.slice A' i c').ownBlock∨(Value.slice A3 k c3).ownBlock=some (W4.alloc o).heap.size):
 iW (fun b=>w.heap.size≤b∧(Value.slice A3 k c3).ownBlock≠some b) w3 (xs++[x]) (vs++[v])∧PS w3 P g l2∧Fr [P] w w3:=by
 have s1:=HFR.size
 have s2:=hf1.size
 have s3:=hl2.2.size
 have hrow:∀r,(Value.slice A' i c').ownBlock=some r→w.heap.size≤r∧r<wr.heap.size:=fun r hr=>aO7 HO r hr
 have ha:∀b,b<W4.heap.size→(W4.alloc o).heap[b]?=W4.heap[b]?:=fun b hb=>Below.heap_alloc W4 o b hb
 have hsz:(W4.alloc o).heap.size=W4.heap.size+1:=by simp
 have hgb:∀b,b<W4.heap.size→(Value.slice A' i c').ownBlock≠some b→w3.heap[b]?=W4.heap[b]?:=fun b hb hne=>(hg.block b (by omega) (fun e=>hne e.symm)).trans (ha b hb)
 have hwr:∀b,b<wr.heap.size→b≠P→W4.heap[b]?=wr.heap[b]?:=fun b hb hne=>(hl2.2.block b (by omega) (by simpa using hne)).trans (hf1.block b hb (by simpa using hne))
 refine⟨HTS.snoc (S':=fun b=>w.heap.size≤b∧(Value.slice A3 k c3).ownBlock≠some b) ?_ ?_ ?_,?_,?_⟩
 ·refine((ht.mono (S':=fun b=>Ws.heap.size≤b∧b<W4.heap.size) (fun b hb hl=>⟨hb,hl⟩)).keep (fun b hb _=>hgb b hb.2 (fun e=>?_))).mono (fun b hb _=>⟨by omega,fun e=>?_⟩)
  ·have:=hrow b e;omega
  ·rcases hat with e2|e2
   ·rw[e2] at e;have:=hrow b e;omega
   ·rw[e2] at e;injection e with e;omega
 ·intro b hb hl
  exact(hgb b (by omega) hb.2).trans (hwr b hl (by omega))
 ·intro b hb hl
  refine⟨hb.1,fun e=>?_⟩
  rcases hat with e2|e2
  ·rw[e2] at e;exact hb.2 e
  ·rw[e2] at e;injection e with e;omega
 ·obtain⟨q,cq,hp,hat2⟩:=hl2.1
  have hne:∀b,b<w.heap.size→(Value.slice A' i c').ownBlock≠some b:=fun b hb e=>by have:=hrow b e;omega
  exact⟨q,cq,(hgb P (by omega) (hne P hP)).trans hp,jY hat2 (hgb g (by omega) (hne g hg0))⟩
 ·have f1:Fr [P] w W4:=HFR.step (hf1.step hl2.2 (New.refl _ _)) (New.refl _ _)
  refine⟨hg.os.trans f1.os,hg.tape.trans f1.tape,hg.output.trans f1.output,?_,fun b hb hm=>?_⟩
  ·have:=hg.size;omega
  ·exact(hgb b (by omega) (fun e=>by have:=hrow b e;omega)).trans (f1.block b hb hm)
theorem aKk (P g:Nat) (l:List Tok) (hfi:gT l) (kind wi:Int) (n:Nat) (hn:cH kind=n) (hn3:n≤3) (hwi:0≤wi∧wi≤40) (pe:Bool→List Tok→PR Ex) (w:World) (h:PS w P g l)
 (hx:∀cond l,gT l→∀W,PS W P g l→Calls prog 41 #[.pointer (some ⟨P,0,none⟩),.int .i64 (wi+1),.bool cond] W (mS W P g (pe cond l)))
 (hxf:∀cond l x l',gT l→pe cond l=.ok (x,l')→gT l'):
 Calls prog 91 #[.pointer (some ⟨P,0,none⟩),.int .i64 kind,.int .i64 wi] w (AOut w P g (bW pe kind n 0 l)):=by
 obtain⟨i0,hi,iz,isz,iby⟩:=info_parts zV
 have HX:=Hd hx
 have HXF:=Hd hxf
 have HPS:=Hd h
 have HFI0:=Hd hfi
 have HFO:Hid (∀W,Calls prog 161 #[.int .i64 kind] W (Ret (.tuple #[.string (aY kind),.int .i64 (aO kind),.int .i64 n,.bool (qD kind)]) W)):=Hd (fun W=>by rw[←hn];exact cZ kind W)
 have zw:wrap64 (wi+1)=wi+1:=Mem.w64 (by omega) (by omega)
 have HN3:=Hd hn3
 have HPl:Hid (P<w.heap.size):=Hd (by obtain⟨o,q,hp,_⟩:=h;exact(gLt hp))
 have HGl:Hid (g<w.heap.size):=Hd (by
  obtain⟨i,t,hl,_⟩:=hfi.1
  cases l with
  |nil=>simp at hl
  |cons a r=>obtain⟨_,_,_,_,_,_,_,_,_,_,hgl,_⟩:=h.head;exact hgl)
 clear hx hxf h hfi hn hwi hn3
 go_enter func91,ntmps91
 go_wp2_with (go_at_call 161;go_must (refine rB w (HFO.out _) ?_;intro wq1 Bq1))
 go_loopw [6,20] (fun ov iv wr=>∃(i:Nat) (A':Option Addr) (c':Nat) (vs:List EV) (xs:List Ex) (l':List Tok),i≤n∧iv=.int .i64 i∧ov=.slice A' i c'∧Hid (vs.length=i)∧Hid (dX.Own 51 wr w.heap.size A' c' vs)∧Hid (iW (fun b=>w.heap.size≤b∧(Value.slice A' i c').ownBlock≠some b) wr xs vs)∧Hid (PS wr P g l')∧Hid (gT l')∧Hid (Fr [P] w wr)∧Hid (bW pe kind n 0 l=pL xs (bW pe kind (n-i) i l'))) (fun _ iv _=>n-(intOf iv).toNat)
 case atStart=>
  refine⟨0,none,0,[],[],l,Nat.zero_le _,rfl,rfl,Hd rfl,Hd (En.Own.none_ _ _ _),Hd ⟨rfl,fun j x v hx=>by simp at hx⟩,Hd (HPS.out.below ?_),HFI0,Hd (Fr.of_below ?_ _),Hd (by rw[aIf,Nat.sub_zero])⟩
  ·exact blw
  ·exact blw
 case round=>
  obtain⟨i,A',c',vs,xs,l',hin,rfl,rfl,HVL,HO,HTS,HP,HFI,HFR,HE⟩:=hrel
  by_cases hlt:i<n
  ·obtain⟨q,hq⟩:∃q,n-i=q+1:=⟨n-i-1,by omega⟩
   rw[hq] at HE
   have HQ:=Hd hq
   clear hq
   have HLT:Hid (i<n):=Hd hlt
   by_cases hi0:i=0
   ·subst hi0
    have HEN:Hid (∀x l2,bW pe kind n 0 l=pL xs (match bW pe kind q (0+1) l2 with
     |.error e=>.error e
     |.ok (ys,l3)=>.ok (x::ys,l3))→bW pe kind n 0 l=pL (xs++[x]) (bW pe kind (n-(0+1)) (0+1) l2)):=Hd (fun x l2 h=>by
     rw[h,show n-(0+1)=q by have:=HQ.out;omega]
     rcases bW pe kind q (0+1) l2 with e|⟨ys,l3⟩ <;> simp[pL])
    by_cases hk:kind=10
    ·subst hk
     have HE2:Hid (bW pe 10 n 0 l=pL xs (match pe true l' with
      |.error e=>.error e
      |.ok (x,l2)=>match bW pe 10 q (0+1) l2 with
       |.error e=>.error e
       |.ok (ys,l3)=>.ok (x::ys,l3))):=Hd HE.out
     clear HE
     have HX2:Hid (∀W,PS W P g l'→Calls prog 41 #[.pointer (some ⟨P,0,none⟩),.int .i64 (wi+1),.bool true] W (mS W P g (pe true l'))):=Hd (fun W hW=>HX.out true l' HFI.out W hW)
     have HFI2:Hid (∀x l2,pe true l'=.ok (x,l2)→gT l2):=Hd (fun x l2 he=>HXF.out true l' x l2 HFI.out he)
     generalize pe true l'=px at HX2 HFI2 HE2
     clear HX HXF
     rcases px with⟨er,a⟩|⟨x,l2⟩
     ·go_wp2_with (first
       |(go_at_call 41;go_must (refine(HX2.out _ HP.out).mono ?_;rintro e W4 ⟨rfl,hf⟩;have HF2:=Hd hf;clear hf)))
      rw[HE2.out]
      exact⟨rfl,rfl,HFR.out.step ((Fr.refl [P] wr).step HF2.out (New.refl _ _)) (New.refl _ _)⟩
     ·have HFI3:=Hd (HFI2.out x l2 rfl)
      go_wp2_with (first
       |(go_at_call 41;go_must (refine(HX2.out _ HP.out).mono ?_;rintro e W4 ⟨⟨⟨ek,en,es,eA,em,ec⟩,rfl,ht⟩,hf⟩;have HF2:=Hd hf;have HTR:=Hd ht;clear hf ht))
       |(at_builtin;refine aV dX _ rfl _ _ 49 rfl w.heap.size 51 i0 _ 56 underlying49 hi iz isz iby rfl A' c' 0 vs rfl HVL.out.symm ?own _ 1 1 [⟨ek,en,es,eA,em,ec⟩] rfl rfl ?at_ ?m1 ?m2 ?m3 ?_))
      case own=>exact(uR HO.out ((Fr.refl [P] wr).step HF2.out.2 (New.refl _ _)) HPl.out).below (aB bR _)
      case at_=>exact jP W4 ⟨ek,en,es,eA,em,ec⟩
      case m1=>have:=HN3.out;have:=HLT.out;(rw[HVL.out]) <;> first|omega|(simp <;> omega)
      case m2=>have:=HN3.out;have:=HLT.out;(rw[HVL.out]) <;> first|omega|(simp <;> omega)
      case m3=>have h1:=HFR.out.size;have h2:=((Fr.refl [P] wr).step HF2.out.2 (New.refl _ _)).size;simp;omega
      intro A3 c3 w3 hown hg hat
      rw[HVL.out] at hg hat
      have hst:=mP (k:=0+1) (i:=0) (A3:=A3) (c3:=c3) (o:=.cells #[.int .i64 ek,.int .i64 en,.string es,.slice eA em ec] 51) HPl.out HGl.out HFR.out HO.out HTS.out (Fr.refl [P] wr) HF2.out HTR.out hg (hat.imp id (fun h=>h.trans (by simp)))
      have HST:=Hd hst
      have HO3:=Hd hown
      have HVL3:Hid ((vs++[(⟨ek,en,es,eA,em,ec⟩:EV)]).length=0+1):=Hd (by rw[lA,HVL.out];rfl)
      have hlen:∀(c:Nat),Value.slice A3 (vs++[(⟨ek,en,es,eA,em,ec⟩:EV)]).length c=.slice A3 (0+1) c:=fun c=>by rw[HVL3.out]
      first|rw[hlen]|rw[HVL.out]
      clear hown hg hat hst hlen
      go_wp2
      go_roundw
      case rel=>exact⟨0+1,A3,c3,_,xs++[x],l2,HLT.out,by simp,rfl,HVL3,HO3,Hd HST.out.1,Hd HST.out.2.1,HFI3,Hd HST.out.2.2,Hd (HEN.out x l2 HE2.out)⟩
      case measure=>have:=HLT.out;simp[intOf];omega
    ·have HE2:Hid (bW pe kind n 0 l=pL xs (match pe false l' with
      |.error e=>.error e
      |.ok (x,l2)=>match bW pe kind q (0+1) l2 with
       |.error e=>.error e
       |.ok (ys,l3)=>.ok (x::ys,l3))):=Hd (by
      have h1:=HE.out
      rw[bW] at h1
      simp only[hk,decide_false,Bool.false_and,if_true] at h1
      exact h1)
     clear HE
     have HX2:Hid (∀W,PS W P g l'→Calls prog 41 #[.pointer (some ⟨P,0,none⟩),.int .i64 (wi+1),.bool false] W (mS W P g (pe false l'))):=Hd (fun W hW=>HX.out false l' HFI.out W hW)
     have HFI2:Hid (∀x l2,pe false l'=.ok (x,l2)→gT l2):=Hd (fun x l2 he=>HXF.out false l' x l2 HFI.out he)
     generalize pe false l'=px at HX2 HFI2 HE2
     clear HX HXF
     rcases px with⟨er,a⟩|⟨x,l2⟩
     ·go_wp2_with (first
       |(go_at_call 41;go_must (refine(HX2.out _ HP.out).mono ?_;rintro e W4 ⟨rfl,hf⟩;have HF2:=Hd hf;clear hf)))
      rw[HE2.out]
      exact⟨rfl,rfl,HFR.out.step ((Fr.refl [P] wr).step HF2.out (New.refl _ _)) (New.refl _ _)⟩
     ·have HFI3:=Hd (HFI2.out x l2 rfl)
      go_wp2_with (first
       |(go_at_call 41;go_must (refine(HX2.out _ HP.out).mono ?_;rintro e W4 ⟨⟨⟨ek,en,es,eA,em,ec⟩,rfl,ht⟩,hf⟩;have HF2:=Hd hf;have HTR:=Hd ht;clear hf ht))
       |(at_builtin;refine aV dX _ rfl _ _ 49 rfl w.heap.size 51 i0 _ 56 underlying49 hi iz isz iby rfl A' c' 0 vs rfl HVL.out.symm ?own _ 1 1 [⟨ek,en,es,eA,em,ec⟩] rfl rfl ?at_ ?m1 ?m2 ?m3 ?_))
      case own=>exact(uR HO.out ((Fr.refl [P] wr).step HF2.out.2 (New.refl _ _)) HPl.out).below (aB bR _)
      case at_=>exact jP W4 ⟨ek,en,es,eA,em,ec⟩
      case m1=>have:=HN3.out;have:=HLT.out;(rw[HVL.out]) <;> first|omega|(simp <;> omega)
      case m2=>have:=HN3.out;have:=HLT.out;(rw[HVL.out]) <;> first|omega|(simp <;> omega)
      case m3=>have h1:=HFR.out.size;have h2:=((Fr.refl [P] wr).step HF2.out.2 (New.refl _ _)).size;simp;omega
      intro A3 c3 w3 hown hg hat
      rw[HVL.out] at hg hat
      have hst:=mP (k:=0+1) (i:=0) (A3:=A3) (c3:=c3) (o:=.cells #[.int .i64 ek,.int .i64 en,.string es,.slice eA em ec] 51) HPl.out HGl.out HFR.out HO.out HTS.out (Fr.refl [P] wr) HF2.out HTR.out hg (hat.imp id (fun h=>h.trans (by simp)))
      have HST:=Hd hst
      have HO3:=Hd hown
      have HVL3:Hid ((vs++[(⟨ek,en,es,eA,em,ec⟩:EV)]).length=0+1):=Hd (by rw[lA,HVL.out];rfl)
      have hlen:∀(c:Nat),Value.slice A3 (vs++[(⟨ek,en,es,eA,em,ec⟩:EV)]).length c=.slice A3 (0+1) c:=fun c=>by rw[HVL3.out]
      first|rw[hlen]|rw[HVL.out]
      clear hown hg hat hst hlen
      go_wp2
      go_roundw
      case rel=>exact⟨0+1,A3,c3,_,xs++[x],l2,HLT.out,by simp,rfl,HVL3,HO3,Hd HST.out.1,Hd HST.out.2.1,HFI3,Hd HST.out.2.2,Hd (HEN.out x l2 HE2.out)⟩
      case measure=>have:=HLT.out;simp[intOf];omega
   ·have HSG0:Hid (∀W,PS W P g l'→Calls prog 90 #[.pointer (some ⟨P,0,none⟩),.string ⟨#[44]⟩] W (gI W P g (fun _ e _=>∃v,e=.returned v) (bM iN l'))):=Hd (fun W h1=>lT P g l' HFI.out.1.ne iN W h1)
    have HEnd:Hid (∀t l1,bM iN l'=.ok (t,l1)→gT l1):=Hd (fun t l1 e=>dP HFI.out e)
    have zi:(0:Int)<(i:Int):=by omega
    have zi2:¬(i:Int)=0:=by omega
    have zi3:((i:Int)==0)=false:=bN zi2
    have zi4:¬i=0:=by omega
    have ZI5:Hid (wrap64 ((i:Int)+1)=(i:Int)+1):=Hd (Mem.w64 (by omega) (by have:=HN3.out;omega))
    have HE1:Hid (bW pe kind n 0 l=pL xs (match bM iN l' with
     |.error e=>.error e
     |.ok (_,l1)=>match pe false l1 with
      |.error e=>.error e
      |.ok (x,l2)=>match bW pe kind q (i+1) l2 with
       |.error e=>.error e
       |.ok (ys,l3)=>.ok (x::ys,l3))):=Hd (by
     have h1:=HE.out
     rw[bW] at h1
     simp only[hi0,decide_false,Bool.and_false,if_false] at h1
     exact h1)
    have HEN:Hid (∀x l2,bW pe kind n 0 l=pL xs (match bW pe kind q (i+1) l2 with
     |.error e=>.error e
     |.ok (ys,l3)=>.ok (x::ys,l3))→bW pe kind n 0 l=pL (xs++[x]) (bW pe kind (n-(i+1)) (i+1) l2)):=Hd (fun x l2 h=>by
     rw[h,show n-(i+1)=q by have:=HQ.out;omega]
     rcases bW pe kind q (i+1) l2 with e|⟨ys,l3⟩ <;> simp[pL])
    generalize bM iN l'=sg at HSG0 HEnd HE1
    clear HE hi0
    rcases sg with⟨er,a⟩|⟨t0,l1⟩
    ·have HSG:Hid (∀W,PS W P g l'→Calls prog 90 #[.pointer (some ⟨P,0,none⟩),.string ⟨#[44]⟩] W fun e w'=>e=iO er a∧Fr [P] W w'):=HSG0
     clear HSG0 HX HXF HEN
     by_cases hk:kind=10
     ·go_wp2_with (first
       |(go_at_call 90;go_must (refine(HSG.out _ HP.out).mono ?_;rintro e W3 ⟨rfl,hf⟩;have HF:=Hd hf;clear hf)))
      rw[HE1.out]
      exact⟨rfl,rfl,HFR.out.step HF.out (New.refl _ _)⟩
     ·go_wp2_with (first
       |(go_at_call 90;go_must (refine(HSG.out _ HP.out).mono ?_;rintro e W3 ⟨rfl,hf⟩;have HF:=Hd hf;clear hf)))
      rw[HE1.out]
      exact⟨rfl,rfl,HFR.out.step HF.out (New.refl _ _)⟩
    ·have HSG:Hid (∀W,PS W P g l'→Calls prog 90 #[.pointer (some ⟨P,0,none⟩),.string ⟨#[44]⟩] W fun e w'=>(∃v,e=.returned v)∧eH W P g l1 w'):=HSG0
     have HFI1:=Hd (HEnd.out t0 l1 rfl)
     have HE2:Hid (bW pe kind n 0 l=pL xs (match pe false l1 with
      |.error e=>.error e
      |.ok (x,l2)=>match bW pe kind q (i+1) l2 with
       |.error e=>.error e
       |.ok (ys,l3)=>.ok (x::ys,l3))):=Hd HE1.out
     clear HSG0 HEnd HE1
     by_cases hk:kind=10
     ·subst hk
      have HX2:Hid (∀W,PS W P g l1→Calls prog 41 #[.pointer (some ⟨P,0,none⟩),.int .i64 (wi+1),.bool false] W (mS W P g (pe false l1))):=Hd (fun W hW=>HX.out false l1 HFI1.out W hW)
      have HFI2:Hid (∀x l2,pe false l1=.ok (x,l2)→gT l2):=Hd (fun x l2 he=>HXF.out false l1 x l2 HFI1.out he)
      generalize pe false l1=px at HX2 HFI2 HE2
      clear HX HXF
      rcases px with⟨er,a⟩|⟨x,l2⟩
      ·go_wp2_with (first
        |(go_at_call 90;go_must (refine(HSG.out _ HP.out).mono ?_;rintro e W3 ⟨⟨v3,rfl⟩,hf⟩;have HF:=Hd hf;clear hf))
        |(go_at_call 41;go_must (refine(HX2.out _ HF.out.1).mono ?_;rintro e W4 ⟨rfl,hf⟩;have HF2:=Hd hf;clear hf)))
       rw[HE2.out]
       exact⟨rfl,rfl,HFR.out.step (HF.out.2.step HF2.out (New.refl _ _)) (New.refl _ _)⟩
      ·have HFI3:=Hd (HFI2.out x l2 rfl)
       go_wp2_with (first
        |(go_at_call 90;go_must (refine(HSG.out _ HP.out).mono ?_;rintro e W3 ⟨⟨v3,rfl⟩,hf⟩;have HF:=Hd hf;clear hf))
        |(go_at_call 41;go_must (refine(HX2.out _ HF.out.1).mono ?_;rintro e W4 ⟨⟨⟨ek,en,es,eA,em,ec⟩,rfl,ht⟩,hf⟩;have HF2:=Hd hf;have HTR:=Hd ht;clear hf ht))
        |(at_builtin;refine aV dX _ rfl _ _ 49 rfl w.heap.size 51 i0 _ 56 underlying49 hi iz isz iby rfl A' c' i vs rfl HVL.out.symm ?own _ 1 1 [⟨ek,en,es,eA,em,ec⟩] rfl rfl ?at_ ?m1 ?m2 ?m3 ?_))
       case own=>exact(uR HO.out (HF.out.2.step HF2.out.2 (New.refl _ _)) HPl.out).below (aB bR _)
       case at_=>exact jP W4 ⟨ek,en,es,eA,em,ec⟩
       case m1=>have:=HN3.out;have:=HLT.out;(rw[HVL.out]) <;> first|omega|(simp <;> omega)
       case m2=>have:=HN3.out;have:=HLT.out;(rw[HVL.out]) <;> first|omega|(simp <;> omega)
       case m3=>have h1:=HFR.out.size;have h2:=(HF.out.2.step HF2.out.2 (New.refl _ _)).size;simp;omega
       intro A3 c3 w3 hown hg hat
       rw[HVL.out] at hg hat
       have hst:=mP (k:=i+1) (i:=i) (A3:=A3) (c3:=c3) (o:=.cells #[.int .i64 ek,.int .i64 en,.string es,.slice eA em ec] 51) HPl.out HGl.out HFR.out HO.out HTS.out HF.out.2 HF2.out HTR.out hg (hat.imp id (fun h=>h.trans (by simp)))
       have HST:=Hd hst
       have HO3:=Hd hown
       have HVL3:Hid ((vs++[(⟨ek,en,es,eA,em,ec⟩:EV)]).length=i+1):=Hd (by rw[lA,HVL.out];rfl)
       have hlen:∀(c:Nat),Value.slice A3 (vs++[(⟨ek,en,es,eA,em,ec⟩:EV)]).length c=.slice A3 (i+1) c:=fun c=>by rw[HVL3.out]
       first|rw[hlen]|rw[HVL.out]
       clear hown hg hat hst hlen
       go_wp2
       go_roundw
       case rel=>exact⟨i+1,A3,c3,_,xs++[x],l2,HLT.out,by rw[ZI5.out];simp,rfl,HVL3,HO3,Hd HST.out.1,Hd HST.out.2.1,HFI3,Hd HST.out.2.2,Hd (HEN.out x l2 HE2.out)⟩
       case measure=>have:=HLT.out;rw[ZI5.out];simp[intOf];omega
     ·skip
      have HX2:Hid (∀W,PS W P g l1→Calls prog 41 #[.pointer (some ⟨P,0,none⟩),.int .i64 (wi+1),.bool false] W (mS W P g (pe false l1))):=Hd (fun W hW=>HX.out false l1 HFI1.out W hW)
      have HFI2:Hid (∀x l2,pe false l1=.ok (x,l2)→gT l2):=Hd (fun x l2 he=>HXF.out false l1 x l2 HFI1.out he)
      generalize pe false l1=px at HX2 HFI2 HE2
      clear HX HXF
      rcases px with⟨er,a⟩|⟨x,l2⟩
      ·go_wp2_with (first
        |(go_at_call 90;go_must (refine(HSG.out _ HP.out).mono ?_;rintro e W3 ⟨⟨v3,rfl⟩,hf⟩;have HF:=Hd hf;clear hf))
        |(go_at_call 41;go_must (refine(HX2.out _ HF.out.1).mono ?_;rintro e W4 ⟨rfl,hf⟩;have HF2:=Hd hf;clear hf)))
       rw[HE2.out]
       exact⟨rfl,rfl,HFR.out.step (HF.out.2.step HF2.out (New.refl _ _)) (New.refl _ _)⟩
      ·have HFI3:=Hd (HFI2.out x l2 rfl)
       go_wp2_with (first
        |(go_at_call 90;go_must (refine(HSG.out _ HP.out).mono ?_;rintro e W3 ⟨⟨v3,rfl⟩,hf⟩;have HF:=Hd hf;clear hf))
        |(go_at_call 41;go_must (refine(HX2.out _ HF.out.1).mono ?_;rintro e W4 ⟨⟨⟨ek,en,es,eA,em,ec⟩,rfl,ht⟩,hf⟩;have HF2:=Hd hf;have HTR:=Hd ht;clear hf ht))
        |(at_builtin;refine aV dX _ rfl _ _ 49 rfl w.heap.size 51 i0 _ 56 underlying49 hi iz isz iby rfl A' c' i vs rfl HVL.out.symm ?own _ 1 1 [⟨ek,en,es,eA,em,ec⟩] rfl rfl ?at_ ?m1 ?m2 ?m3 ?_))
       case own=>exact(uR HO.out (HF.out.2.step HF2.out.2 (New.refl _ _)) HPl.out).below (aB bR _)
       case at_=>exact jP W4 ⟨ek,en,es,eA,em,ec⟩
       case m1=>have:=HN3.out;have:=HLT.out;(rw[HVL.out]) <;> first|omega|(simp <;> omega)
       case m2=>have:=HN3.out;have:=HLT.out;(rw[HVL.out]) <;> first|omega|(simp <;> omega)
       case m3=>have h1:=HFR.out.size;have h2:=(HF.out.2.step HF2.out.2 (New.refl _ _)).size;simp;omega
       intro A3 c3 w3 hown hg hat
       rw[HVL.out] at hg hat
       have hst:=mP (k:=i+1) (i:=i) (A3:=A3) (c3:=c3) (o:=.cells #[.int .i64 ek,.int .i64 en,.string es,.slice eA em ec] 51) HPl.out HGl.out HFR.out HO.out HTS.out HF.out.2 HF2.out HTR.out hg (hat.imp id (fun h=>h.trans (by simp)))
       have HST:=Hd hst
       have HO3:=Hd hown
       have HVL3:Hid ((vs++[(⟨ek,en,es,eA,em,ec⟩:EV)]).length=i+1):=Hd (by rw[lA,HVL.out];rfl)
       have hlen:∀(c:Nat),Value.slice A3 (vs++[(⟨ek,en,es,eA,em,ec⟩:EV)]).length c=.slice A3 (i+1) c:=fun c=>by rw[HVL3.out]
       first|rw[hlen]|rw[HVL.out]
       clear hown hg hat hst hlen
       go_wp2
       go_roundw
       case rel=>exact⟨i+1,A3,c3,_,xs++[x],l2,HLT.out,by rw[ZI5.out];simp,rfl,HVL3,HO3,Hd HST.out.1,Hd HST.out.2.1,HFI3,Hd HST.out.2.2,Hd (HEN.out x l2 HE2.out)⟩
       case measure=>have:=HLT.out;rw[ZI5.out];simp[intOf];omega
  ·obtain rfl:i=n:=by omega
   have HE2:Hid (bW pe kind i 0 l=.ok (xs,l')):=Hd (by rw[HE.out,Nat.sub_self];simp[bW,pL])
   clear HE HX HXF
   go_wp2
   go_ret
   rw[HE2.out]
   have hxl:xs.length=i:=HTS.out.1.trans HVL.out
   refine⟨⟨A',c',vs,by rw[hxl];rfl,HO.out,HTS.out.keep (fun _ _ _=>rfl) (fun _ hb _=>hb.1)⟩,HP.out,HFR.out⟩
theorem aI0 (p:Ex→Prop) (h:∀k n s xs,(∀x∈xs,p x)→p (.node k n s xs)):∀x,p x
 |.node k n s xs=>h k n s xs (fun x _=>aI0 p h x)
theorem eY {w:World} {A:Option Addr} {c:Nat} {xs:List EV} (h:dX.At w A c xs) (k:Nat) (x:EV) (hx:xs[k]?=some x):
 ∃b off,A=some ⟨b,off,none⟩∧b<w.heap.size∧w.cell? ⟨b,off+k * 4,none⟩=some (.int .i64 x.k)∧w.cell? ⟨b,off+k * 4+1,none⟩=some (.int .i64 x.n)∧w.cell? ⟨b,off+k * 4+2,none⟩=some (.string x.s)∧w.cell? ⟨b,off+k * 4+3,none⟩=some (.slice x.A x.m x.c):=by
 obtain⟨b,off,hA,hlt,hc⟩:=h.get k x hx
 exact⟨b,off,hA,hlt,hc 0 (by decide),hc 1 (by decide),hc 2 (by decide),hc 3 (by decide)⟩
theorem bB.parts {S:Nat→Prop} {W:World} {k n:Int} {s:ByteArray} {xs:List Ex} {v:EV} (h:bB S W (.node k n s xs) v):
 ∃(A:Option Addr) (c:Nat) (vs:List EV),v=⟨k,n,s,A,xs.length,c⟩∧vs.length=xs.length∧dX.At W A c vs∧(∀(i:Nat) (x:Ex) (u:EV),xs[i]?=some x→vs[i]?=some u→bB S W x u):=by
 cases h with
 |mk k n s xs A c vs hv hat hlo hx=>exact⟨A,c,vs,rfl,hv,hat,hx⟩
mutual
def cJ:Ex→Nat
 |.node _ _ _ xs=>1+eW xs
def eW:List Ex→Nat
 |[]=>0
 |x::xs=>cJ x+eW xs
end
theorem kW {xs:List Ex}:∀{k:Nat} {x:Ex},xs[k]?=some x→eW (xs.take (k+1))=eW (xs.take k)+cJ x:=by
 induction xs with
 |nil=>intro k x h;simp at h
 |cons y xs ih=>
  intro k x h
  cases k with
  |zero=>simp at h;subst h;simp[eW]
  |succ k=>
   have:=ih (by simpa using h)
   rw[List.take_succ_cons,List.take_succ_cons,eW,eW,this]
   omega
theorem nW (xs:List Ex) (k:Nat):eW (xs.take k)≤eW xs:=by
 induction xs generalizing k with
 |nil=>simp
 |cons y xs ih=>
  cases k with
  |zero=>simp[eW]
  |succ k=>
   have:=ih k
   rw[List.take_succ_cons,eW,eW]
   omega
theorem aF4 (x:Ex):∀(v:EV) (S:Nat→Prop) (w:World),bB S w x v→cJ x≤1000000→Calls prog 94 #[v.v] w (Ret (.int .i64 (cJ x)) w):=by
 induction x using aI0 with
 |h k n s xs ih=>
  intro v S w h hz
  obtain⟨A,c,vs,rfl,hv,hat,hx⟩:=h.parts
  obtain⟨m,hm⟩:∃m,xs.length=m:=⟨_,rfl⟩
  have HIH:Hid (∀(i:Nat) (x:Ex) (u:EV),xs[i]?=some x→vs[i]?=some u→∀W,Below w.heap.size w W→Calls prog 94 #[u.v] W (Ret (.int .i64 (cJ x)) W)):=Hd (fun i x u h1 h2 W hb=>by
   refine ih x (List.mem_of_getElem? h1) u S W ((hx i x u h1 h2).onBelow hb) ?_
   have h3:=kW h1
   have h4:=nW xs (i+1)
   rw[cJ] at hz
   omega)
  obtain⟨a,ha⟩:∃a:Nat→Nat,∀i,a i=1+eW (xs.take i):=⟨_,fun _=>rfl⟩
  have HA1:Hid (∀i y,xs[i]?=some y→a (i+1)=a i+cJ y):=Hd (fun i y hy=>by rw[ha,ha,kW hy];omega)
  have HA2:Hid (∀i,a i≤1000000):=Hd (fun i=>by
   have:=nW xs i
   rw[cJ] at hz
   rw[ha]
   omega)
  have HA0:Hid (a 0=1):=Hd (by rw[ha];rfl)
  obtain⟨T,hT⟩:∃T,cJ (.node k n s xs)=T:=⟨_,rfl⟩
  have HAm:Hid (a m=T):=Hd (by rw[ha,←hT,cJ,←hm,List.take_length])
  have HAT:=Hd hat
  have HV:Hid (vs.length=m):=Hd (hv.trans hm)
  have HM:=Hd hm
  have HMX:Hid (m≤c∧c≤9223372036854775807):=Hd ⟨by have:=hat.le;omega,hat.max⟩
  rw[hm,hT]
  unfold EV.v
  clear hv hat hx hm ih h hz ha hT
  go_enter func94,ntmps94
  go_wp2
  go_loopw [3,9] (fun nv iv wr=>∃(i:Nat) (q:Int),i≤m∧iv=.int .i64 i∧nv=.int .i64 q∧Hid (q=(a i:Int))∧Hid (Below w.heap.size w wr)) (fun _ iv _=>m-(intOf iv).toNat)
  case atStart=>exact⟨0,1,Nat.zero_le _,rfl,rfl,Hd (by rw[HA0.out];rfl),Hd blw⟩
  case round=>
   obtain⟨i,q,him,rfl,rfl,HQ,HB⟩:=hrel
   by_cases hlt:i<m
   ·have hxi:xs[i]?=some (xs[i]'(by have:=HM.out;omega)):=gE _
    have hvi:vs[i]?=some (vs[i]'(by have:=HV.out;omega)):=gE _
    have HI:=HIH.out i _ _ hxi hvi
    obtain⟨b,off,rfl,hbl,c0,c1,c2,c3⟩:=eY (HAT.out.below HB.out) i _ hvi
    generalize vs[i]'(by have:=HV.out;omega)=u at HI c0 c1 c2 c3 hvi
    generalize xs[i]'(by have:=HM.out;omega)=y at HI hxi
    have ht:=HA1.out i y hxi
    have hle:=HA2.out (i+1)
    obtain⟨uk,un,us,uA,um,uc⟩:=u
    dsimp only at c0 c1 c2 c3
    generalize cJ y=z at HI ht
    have HI2:Hid (∀W,Below w.heap.size w W→Calls prog 94 #[.agg #[.int .i64 uk,.int .i64 un,.string us,.slice uA um uc]] W (Ret (.int .i64 (z:Int)) W)):=Hd HI
    have HN:Hid (q+(z:Int)=(a (i+1):Int)):=Hd (by rw[HQ.out,ht];omega)
    have zq:wrap64 (q+(z:Int))=q+(z:Int):=Mem.w64 (by have:=HN.out;omega) (by have:=HN.out;omega)
    have zi:wrap64 ((i:Int)+1)=((i+1:Nat):Int):=by rw[Mem.w64 (by omega) (by have:=HMX.out;omega)];omega
    have z1:(i:Int)<(m:Int):=by omega
    have HLT:=Hd hlt
    clear HI hxi hvi ht hle hlt
    go_wp2_with (go_at_call 94;go_must (refine rB w (HI2.out _ blw) ?_;intro W HB2))
    go_roundw
    case rel=>exact⟨i+1,q+(z:Int),HLT.out,by rw[zi],by rw[zq],HN,HB2⟩
    case measure=>have:=HLT.out;(try rw[zi]);simp[intOf];omega
   ·obtain rfl:i=m:=by omega
    have HE:Hid (q=(T:Int)):=Hd (by rw[HQ.out,HAm.out])
    clear hlt
    go_wp2
    go_ret
    exact⟨by rw[HE.out];rfl,HB.out⟩
theorem aHp (k n:Int) (s:ByteArray) (A:Option Addr) (m c:Nat) (h:(k=3∧aZ s=true)∨(k≠3∧s=⟨#[]⟩)) (w:World):Calls prog 166 #[.agg #[.int .i64 k,.int .i64 n,.string s,.slice A m c]] w (Ret (.bool true) w):=by
 rcases h with⟨rfl,h⟩|⟨h,rfl⟩
 ·have HN:=Hd (fun W=>eB s W (by
   unfold aZ at h
   simp at h
   omega))
  rw[h] at HN
  clear h
  go_enter func166,ntmps166
  go_wp2_with (go_at_call 60;go_must (refine rB w (HN.out _) ?_;intro wq1 Bq1))
  go_ret
  exact⟨rfl,blw⟩
 ·go_enter func166,ntmps166
  go_wp2
  go_ret
  exact⟨rfl,blw⟩
end Go.Proofs.YtlibhkkckgkkkaaGreatDoor.Tf
namespace Go.Proofs.YtlibhkkckgkkkaaGreatDoor.Tf
open Go.RowKit Go.Proofs.YtlibhkkckgkkkaaGreatDoor.Mem Go.Proofs.YtlibhkkckgkkkaaGreatDoor.Boo
theorem sR (P g:Nat) (t:Tok) (r:List Tok) (cond:Bool) (w:World) (h:PS w P g (t::r)):Calls Tryz.prog 89 #[.pointer (some ⟨P,0,none⟩),.bool cond] w (aOv w t.a (fJ cond t)):=by
 unfold fJ
 by_cases hk:t.k=3∧cond=false
 ·rw[if_pos hk]
  obtain⟨h1,rfl⟩:=hk
  exact vG P g t r w h h1
 ·rw[if_neg hk]
  cases cond with
  |true=>exact qA P g t r true w h hk 11 12 2 (.inl ⟨rfl,rfl,rfl⟩) rfl
  |false=>exact qA P g t r false w h hk 1 10 10 (.inr ⟨rfl,rfl,rfl⟩) rfl
theorem kM (k:Int):∃n:Nat,cH k=n∧n≤3∧(cH k).toNat=n:=by
 unfold cH
 by_cases h:k<1∨13≤k
 ·exact⟨0,by rw[if_pos h];rfl,by omega,by rw[if_pos h];rfl⟩
 ·rw[if_neg h]
  obtain⟨n,rfl⟩:=Int.eq_ofNat_of_zero_le (by omega:0≤k)
  have hn:n<13:=by omega
  have H:∀m:Fin 13,yD.getD m.val 0=((yD.getD m.val 0).toNat:Int)∧(yD.getD m.val 0).toNat≤3:=by decide
  exact⟨_,(H ⟨n,hn⟩).1,(H ⟨n,hn⟩).2,rfl⟩
theorem uE {pe:Bool→List Tok→PR Ex} (hpe:∀cond l x l',gT l→pe cond l=.ok (x,l')→gT l') (kind:Int) (n:Nat):∀(i:Nat) (l:List Tok) (xs:List Ex) (l':List Tok),gT l→bW pe kind n i l=.ok (xs,l')→gT l':=by
 induction n with
 |zero=>intro i l xs l' h he;cases he;exact h
 |succ n ih=>
  intro i l xs l' h he
  rw[bW] at he
  by_cases hi:i=0
  ·rw[if_pos hi] at he
   dsimp only at he
   split at he
   ·cases he
   ·rename_i x l2 h2
    split at he
    ·cases he
    ·rename_i ys l3 h3
     cases he
     exact ih _ _ _ _ (hpe _ _ _ _ h h2) h3
  ·rw[if_neg hi] at he
   rcases hs:bM iN l with e|⟨t0,l1⟩
   ·rw[hs] at he;cases he
   ·rw[hs] at he
    dsimp only at he
    split at he
    ·cases he
    ·rename_i x l2 h2
     split at he
     ·cases he
     ·rename_i ys l3 h3
      cases he
      exact ih _ _ _ _ (hpe _ _ _ _ (dP h hs) h2) h3
theorem aD0 {pe:Bool→List Tok→PR Ex} (hpe:∀cond l x l',gT l→pe cond l=.ok (x,l')→gT l') {k:Int} {l l':List Tok} {x:Ex} (h:gT l) (he:rO pe k l=.ok (x,l')):gT l':=by
 unfold rO at he
 rcases h1:bM opnB l with e|⟨t1,l1⟩
 ·rw[h1] at he;cases he
 rw[h1] at he
 dsimp only at he
 rcases h2:bW pe k (cH k).toNat 0 l1 with e|⟨xs,l2⟩
 ·rw[h2] at he;cases he
 rw[h2] at he
 dsimp only at he
 rcases h3:dH k l2 with e|⟨⟨n,s⟩,l3⟩
 ·rw[h3] at he;cases he
 rw[h3] at he
 dsimp only at he
 rcases h4:bM nI l3 with e|⟨t4,l4⟩
 ·rw[h4] at he;cases he
 rw[h4] at he
 cases he
 exact dP (tL (uE hpe k _ 0 _ _ _ (dP h h1) h2) h3) h4
theorem tT (f:Nat):∀(cond:Bool) (l:List Tok) (x:Ex) (l':List Tok),gT l→eX f cond l=.ok (x,l')→gT l':=by
 induction f with
 |zero=>intro cond l x l' h he;cases he
 |succ f ih=>
  intro cond l x l' h he
  cases l with
  |nil=>cases he
  |cons t r=>
   rw[eX] at he
   split at he
   ·cases he
   ·rename_i k hk
    split at he
    ·rcases h1:bK 3 (fun _=>true) (t::r) with e|⟨q,l1⟩
     ·rw[h1] at he;cases he
     ·rw[h1] at he
      cases he
      exact dP h h1
    ·rcases h1:bK 1 (fun _=>true) (t::r) with e|⟨q,l1⟩
     ·rw[h1] at he;cases he
     ·rw[h1] at he
      dsimp only at he
      split at he
      ·cases he;exact dP h h1
      ·exact aD0 ih (dP h h1) he
end Go.Proofs.YtlibhkkckgkkkaaGreatDoor.Tf
