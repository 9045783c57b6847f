/- Part of the proof of TopFeeds: MarB MarC MarD MarE. -/
import Derived.Test.YtlibhkkckgkkkaaGreatDoorZAJ
import Derived.Lib.AppendZerosOnto
set_option maxHeartbeats 4000000
set_option maxRecDepth 100000
namespace Go.Proofs.YtlibhkkckgkkkaaGreatDoor.Mar
open Go.RowKit Go.Proofs.YtlibhkkckgkkkaaGreatDoor.Mem Go.Proofs.Tryz
theorem aEd (w:World):Calls prog 228 #[.slice none 0 0,.int .i64 0] w (eV dM 170 w []):=by
 go_enter func228,ntmps228
 go_wp2
 go_ret
 exact⟨none,0,rfl,En.Own.none_ _ _ _,bR⟩
theorem aId (n:Nat) (w:World) (h0:0<n) (hb:n * 24≤140737488355328):Calls prog 228 #[.slice none 0 0,.int .i64 n] w (eV dM 170 w []):=by
 obtain⟨i0,hi,hz0,hz1,hz2⟩:=info_parts uW
 have hrz:∀ty,(Builtin.append_ #[71,3] ty #[.slice none 0 0,.int .i64 (n:Int)]).run prog w=
  .ok (.slice (some ⟨w.heap.size,0,none⟩) n (grownCap w n 0 170)) (w.drew.alloc (.cells (([]:List Value).toArray++Builtin.zeroCells (Value.agg #[.int .i64 0,.int .i64 0,.int .i64 0]).cells n++Builtin.zeroCells (Value.agg #[.int .i64 0,.int .i64 0,.int .i64 0]).cells (grownCap w n 0 170-n)) 170)):=fun ty=>by
  have h:=Lib.run_append_grow_zeros w 71 3 ty 170 i0 _ .i64 .i64 underlying71 underlying3 hi hz0 none 0 0 [] (by rw[hz1];exact run_firstCells_none w.drew 3 0 0 0) n h0 (by omega) (by omega) (by omega)
   (by rw[hz2];omega) (by rw[hz2];exact growslice_fits (by omega) (by omega))
  simpa using h
 have hG:=grownCap_ge w n 0 170
 have hG63:grownCap w n 0 170≤9223372036854775807:=by
  have:=grownCap_le_maxLen w n 0 170 (by unfold maxLen;omega)
  unfold maxLen at this
  omega
 generalize grownCap w n 0 170=G at hrz hG hG63
 have HR:Hid (∀(ty:TypeId),(Builtin.append_ #[71,3] ty #[.slice none 0 0,.int .i64 (n:Int)]).run prog w=_):=hrz
 clear hrz
 go_enter func228,ntmps228
 go_wp2_with (at_builtin;refine nP _ rfl (.tmp 20) (.tmp 21) 71 3 rfl _ _ _ _ rfl rfl HR.out ?_)
 go_ret
 refine⟨some ⟨w.heap.size,0,none⟩,G,rfl,?_,aL (bR.alloc nR _) 1⟩
 show World.ownsRow (w.alloc _) _ _ _ _ _ _
 exact World.ownsRow_made w _ G nR (by unfold maxLen;omega) (by
  show _=G * 3
  rw[Array.size_append,size_zeroCells,size_zeroCells]
  show n * 3+(G-n) * 3=G * 3
  omega)
theorem aIe (n:Nat) (w:World) (hb:n * 24≤140737488355328):Calls prog 228 #[.slice none 0 0,.int .i64 n] w (eV dM 170 w []):=by
 rcases Nat.eq_zero_or_pos n with h|h
 ·subst h;exact aEd w
 ·exact aId n w h hb
def sumI (xs ys:List dV) (k:Nat):Int:=if k=0 then 0 else if k=1 then xs.length else(xs.length:Int)+ys.length
def vR (xs ys:List dV) (k:Nat):List dV:=if k=0 then[] else if k=1 then xs else xs++ys
theorem aAq (B:Nat) (A1 A2:Option Addr) (c1 c2:Nat) (xs ys:List dV) (w:World) (h1:w.cell? ⟨B,0,none⟩=some (.slice A1 xs.length c1)) (h2:w.cell? ⟨B,1,none⟩=some (.slice A2 ys.length c2))
 (hx:dM.At w A1 c1 xs) (hy:dM.At w A2 c2 ys) (hb:(xs.length+ys.length) * 24≤140737488355328):
 Calls prog 156 #[.slice (some ⟨B,0,none⟩) 2 2] w (eV dM 170 w (xs++ys)):=by
 obtain⟨i0,hi,hz0,hz1,hz2⟩:=info_parts uW
 have HX:=Hd hx
 have HY:=Hd hy
 clear hx hy
 go_enter func156,ntmps156
 go_wp2_with fail
 go_loop [3,5,11] (fun s v i=>∃k:Nat,k≤2∧i=.int .i64 k∧s=.int .i64 (sumI xs ys k)) (fun _ _ i=>2-(intOf i).toNat)
 case atStart=>exact⟨0,by omega,rfl,rfl⟩
 case round=>
  obtain⟨k,hk,rfl,rfl⟩:=hrel
  have hc:k=0∨k=1∨k=2:=by omega
  clear hk
  rcases hc with rfl|rfl|rfl
  ·have e:sumI xs ys 0=0:=rfl
   rw[e]
   clear e
   go_wp2
   go_round
   case rel=>exact⟨1,by omega,rfl,rfl⟩
   case measure=>simp[intOf]
  ·have e:sumI xs ys 1=xs.length:=rfl
   rw[e]
   clear e
   go_wp2
   go_round
   case rel=>exact⟨2,by omega,rfl,rfl⟩
   case measure=>simp[intOf]
  ·have e:sumI xs ys 2=((xs.length+ys.length:Nat):Int):=by simp[sumI]
   rw[e]
   clear e
   go_wp2_with (go_at_call 228;refine(aIe (xs.length+ys.length) _ hb).mono ?_;rintro e w1 ⟨A,c,rfl,hown,hbel⟩)
   have hw1:Hid (w1.cell? ⟨B,0,none⟩=some (.slice A1 xs.length c1)):=aC hbel h1
   have HO:=Hd hown
   have HB:=Hd hbel
   clear hown hbel hw1
   have H1:=Hd h1
   have H2:=Hd h2
   clear h1 h2
   go_loopw [6,8,27] (fun v t8 i wr=>∃(k:Nat) (A:Option Addr) (c:Nat),k≤2∧i=.int .i64 k∧v=.slice A (vR xs ys k).length c∧Hid (dM.Own 170 wr w.heap.size A c (vR xs ys k))∧Hid (Below w.heap.size w wr)) (fun _ _ i _=>2-(intOf i).toNat)
   case atStart=>exact⟨0,A,c,by omega,rfl,rfl,HO,HB⟩
   case round=>
    obtain⟨k,A,c,hk,rfl,rfl,HO,HB⟩:=hrel
    have hc:k=0∨k=1∨k=2:=by omega
    clear hk
    have g1:=aC HB.out H1.out
    have g2:=aC HB.out H2.out
    have hsz:=HB.out.size
    rcases hc with rfl|rfl|rfl
    ·have e:(vR xs ys 0).length=0:=rfl
     rw[e]
     clear e
     go_wp2_with (at_builtin;refine aV dM _ rfl _ _ 71 rfl w.heap.size 170 i0 _ 24 underlying71 hi hz0 hz1 hz2 rfl A c 0 (vR xs ys 0) rfl rfl ?own A1 c1 xs.length xs rfl rfl ?at_ ?m1 ?m2 ?m3 ?_)
     case own=>exact HO.out
     case at_=>exact HX.out.below HB.out
     case m1=>show 0+xs.length≤_;omega
     case m2=>show(0+xs.length) * 24≤_;omega
     case m3=>exact hsz
     intro A' c' w' hown hg hat
     have HO':=Hd hown
     have HG:=Hd hg
     clear hown hg hat
     go_wp2
     go_roundw
     case rel=>exact⟨1,A',c',by omega,rfl,slc (by simp[vR]),HO',bV HB.out HG.out (fun k hk=>(HO.out.row k hk).1)⟩
     case measure=>simp[intOf]
    ·have e:(vR xs ys 1).length=xs.length:=rfl
     rw[e]
     clear e
     go_wp2_with (at_builtin;refine aV dM _ rfl _ _ 71 rfl w.heap.size 170 i0 _ 24 underlying71 hi hz0 hz1 hz2 rfl A c xs.length (vR xs ys 1) rfl rfl ?own A2 c2 ys.length ys rfl rfl ?at_ ?m1 ?m2 ?m3 ?_)
     case own=>exact HO.out
     case at_=>exact HY.out.below HB.out
     case m1=>show xs.length+ys.length≤_;omega
     case m2=>show(xs.length+ys.length) * 24≤_;omega
     case m3=>exact hsz
     intro A' c' w' hown hg hat
     have HO':=Hd hown
     have HG:=Hd hg
     clear hown hg hat
     go_wp2
     go_roundw
     case rel=>exact⟨2,A',c',by omega,rfl,slc (by simp[vR]),HO',bV HB.out HG.out (fun k hk=>(HO.out.row k hk).1)⟩
     case measure=>simp[intOf]
    ·go_wp2
     go_ret
     exact⟨A,c,rfl,HO.out,HB.out⟩
theorem aAr (B:Nat) (A1 A2:Option Addr) (c1 c2 n1 n2:Nat) (xs ys:List dV) (w:World) (e1:n1=xs.length) (e2:n2=ys.length) (h1:w.cell? ⟨B,0,none⟩=some (.slice A1 n1 c1)) (h2:w.cell? ⟨B,1,none⟩=some (.slice A2 n2 c2))
 (hx:dM.At w A1 c1 xs) (hy:dM.At w A2 c2 ys) (hb:(xs.length+ys.length) * 24≤140737488355328):
 Calls prog 156 #[.slice (some ⟨B,0,none⟩) 2 2] w (eV dM 170 w (xs++ys)):=by
 subst e1
 subst e2
 exact aAq B A1 A2 c1 c2 xs ys w h1 h2 hx hy hb
def Took (w:World) (m:dV) (xs:List dV) (b:Bool) (r:Ending) (w':World):Prop:=
 ∃A c,r=.returned (.tuple #[.agg #[.int .i64 m.s,.int .i64 m.v,.int .i64 m.p],.slice A xs.length c,.bool b])∧dM.Own 170 w' w.heap.size A c xs∧Below w.heap.size w w'
theorem vP (A:Option Addr) (c:Nat) (xs:List dV) (i:Int) (w:World) (h:dM.At w A c xs) (hb:xs.length * 24≤140737488355328) (ho:i<0∨(0≤i∧(xs.length:Int)≤i)):
 Calls prog 83 #[.slice A xs.length c,.int .i64 i] w (Took w ⟨0,0,0⟩ xs false):=by
 have H:=Hd h
 clear h
 have hmax:=H.out.max
 have hle:=H.out.le
 rcases ho with hneg|⟨hneg,hbig⟩
 all_goals
  go_enter func83,ntmps83
  go_wp2_with fail
  go_region_with (first|(go_at_call 84;refine(nJ _ _ _ _ (H.out.below (aL (aB bR _) 1)) hb).mono ?_;rintro e w1 ⟨A1,c1,rfl,hown,hbel⟩;obtain⟨hc1,hf1,hz1⟩:=rT hbel;have HO:=Hd hown;have HB:=Hd hbel;clear hown hbel))
  all_goals go_wp2
  all_goals refine bodyPost_ret (v:=.tuple #[.agg #[.int .i64 0,.int .i64 0,.int .i64 0],.slice A1 xs.length c1,.bool false]) (by simp[results,results83,go_sem,hc1]) rfl ⟨A1,c1,rfl,?_,?_⟩
  all_goals first
   |exact(((HO.out.far (by simp) _).far (by simp) _).far (by simp) _).lower (by simp)
   |exact aH (aH (aH (bF (aL (aB bR _) 1) (by simp) HB.out) (by simp) _) (by simp) _) (by simp) _
theorem pZ (b off c k B n2 c2:Nat) (A2:Option Addr) (xs:List dV) (W:World) (h1:W.cell? ⟨B,0,none⟩=some (.slice (some ⟨b,off,none⟩) k c)) (h2:W.cell? ⟨B,1,none⟩=some (.slice A2 n2 c2)) (en:n2=xs.length-(k+1)) (ec:c2=c-(k+1))
 (hA:A2=some (if c=k+1 then⟨b,off,none⟩ else⟨b,off+(k+1) * dM.sz,none⟩)) (h:dM.At W (some ⟨b,off,none⟩) c xs) (hb:xs.length * 24≤140737488355328) (hk:k<xs.length):
 Calls prog 156 #[.slice (some ⟨B,0,none⟩) 2 2] W (eV dM 170 W (xs.eraseIdx k)):=by
 subst en
 subst ec
 rw[List.eraseIdx_eq_take_drop_succ]
 refine aAr B _ A2 c _ k (xs.length-(k+1)) _ _ W ?_ ?_ h1 h2 (h.take k (by omega)) (h.drop (k+1) hk A2 hA) ?_
 ·rw[List.length_take,Nat.min_eq_left (by omega)]
 ·rw[List.length_drop]
 ·rw[List.length_take,Nat.min_eq_left (by omega),List.length_drop];omega
theorem yJ (b off c k:Nat) (xs:List dV) (m:dV) (w:World) (h:dM.At w (some ⟨b,off,none⟩) c xs) (hb:xs.length * 24≤140737488355328) (hk:k<xs.length) (hm:xs[k]?=some m):
 Calls prog 83 #[.slice (some ⟨b,off,none⟩) xs.length c,.int .i64 k] w (Took w m (xs.eraseIdx k) true):=by
 have hmax:=h.max
 have hle:=h.le
 obtain⟨b',off',hA,hlt,hc⟩:=h.get k m hm
 injection hA with hA
 injection hA with e1 e2
 subst e1
 subst e2
 have c0:w.cell? ⟨b,off+k * 3,none⟩=some (.int .i64 m.s):=hc 0 (by decide)
 have c1:w.cell? ⟨b,off+k * 3+1,none⟩=some (.int .i64 m.v):=hc 1 (by decide)
 have c2:w.cell? ⟨b,off+k * 3+2,none⟩=some (.int .i64 m.p):=hc 2 (by decide)
 clear hc
 have H:=Hd h
 clear h
 have HM:=Hd hm
 clear hm
 have b1:(0:Int)≤(k:Int)+1:=by omega
 have b2:(k:Int)+1≤(xs.length:Int):=by omega
 have b3:(0:Int)≤(k:Int):=by omega
 have b4:(k:Int)<(xs.length:Int):=by omega
 have b5:(k:Int)≤(c:Int):=by omega
 have s1:IntKind.i64.wrap ((k:Int)+1)=(k:Int)+1:=IntWalk.i64_in _ (by omega)
 have s2:((k:Int)+1).toNat=k+1:=by omega
 by_cases hck:c=k+1
 ·subst hck
  go_enter func83,ntmps83
  go_wp2_with fail
  go_region_with (first|(go_at_call 156;go_must (refine(pZ b off (k+1) k _ (xs.length-(k+1)) 0 (some ⟨b,off,none⟩) xs _ (by go_simp) (by go_simp) rfl (Nat.sub_self _).symm (by rw[if_pos rfl]) (H.out.below (aL (aB (aB bR _) _) 1)) hb hk).mono ?_;rintro e w1 ⟨A1,c1',rfl,hown,hbel⟩;obtain⟨hc1,hf1,hz1⟩:=rT hbel;have hw1:=aD (aL (aB (aB bR _) _) 1) hbel;have q0:w1.cell? ⟨w.heap.size,0,none⟩=some (.int .i64 0):=aC hbel (by go_simp);have q1:w1.cell? ⟨w.heap.size,1,none⟩=some (.int .i64 0):=aC hbel (by go_simp);have q2:w1.cell? ⟨w.heap.size,2,none⟩=some (.int .i64 0):=aC hbel (by go_simp);have k0:=aC hw1 c0;have k1:=aC hw1 c1;have k2:=aC hw1 c2;have HO:=Hd hown;have HB:=Hd hw1;clear hown hbel hw1)))
  all_goals go_wp2
  all_goals refine bodyPost_ret (v:=.tuple #[.agg #[.int .i64 m.s,.int .i64 m.v,.int .i64 m.p],.slice A1 (xs.eraseIdx k).length c1',.bool true]) ?_ rfl ⟨A1,c1',rfl,?_,?_⟩
  all_goals clear s1 s2
  all_goals first
   |exact(((HO.out.far (by simp;omega) _).far (by simp;omega) _).far (by simp;omega) _).lower (by simp;omega)
   |exact aH (aH (aH HB.out (by simp) _) (by simp) _) (by simp) _
   |(simp[results,results83,go_sem,q0,q1,q2];done)
 ·have hck':k+1<c:=Nat.lt_of_le_of_ne (Nat.le_trans hk hle) (fun e=>hck e.symm)
  go_enter func83,ntmps83
  go_wp2_with fail
  go_region_with (first|(go_at_call 156;go_must (refine(pZ b off c k _ (xs.length-(k+1)) (c-(k+1)) (some ⟨b,off+(k+1) * 3,none⟩) xs _ (by go_simp) (by go_simp) rfl rfl (by rw[if_neg hck];rfl) (H.out.below (aL (aB (aB bR _) _) 1)) hb hk).mono ?_;rintro e w1 ⟨A1,c1',rfl,hown,hbel⟩;obtain⟨hc1,hf1,hz1⟩:=rT hbel;have hw1:=aD (aL (aB (aB bR _) _) 1) hbel;have q0:w1.cell? ⟨w.heap.size,0,none⟩=some (.int .i64 0):=aC hbel (by go_simp);have q1:w1.cell? ⟨w.heap.size,1,none⟩=some (.int .i64 0):=aC hbel (by go_simp);have q2:w1.cell? ⟨w.heap.size,2,none⟩=some (.int .i64 0):=aC hbel (by go_simp);have k0:=aC hw1 c0;have k1:=aC hw1 c1;have k2:=aC hw1 c2;have HO:=Hd hown;have HB:=Hd hw1;clear hown hbel hw1)))
  all_goals go_wp2
  all_goals refine bodyPost_ret (v:=.tuple #[.agg #[.int .i64 m.s,.int .i64 m.v,.int .i64 m.p],.slice A1 (xs.eraseIdx k).length c1',.bool true]) ?_ rfl ⟨A1,c1',rfl,?_,?_⟩
  all_goals clear s1 s2
  all_goals first
   |exact(((HO.out.far (by simp;omega) _).far (by simp;omega) _).far (by simp;omega) _).lower (by simp;omega)
   |exact aH (aH (aH HB.out (by simp) _) (by simp) _) (by simp) _
   |(simp[results,results83,go_sem,q0,q1,q2];done)
theorem eU {W:World} {g:Nat} {m:dV} (h0:W.cell? ⟨g,0,none⟩=some (.int .i64 m.s)) (h1:W.cell? ⟨g,1,none⟩=some (.int .i64 m.v)) (h2:W.cell? ⟨g,2,none⟩=some (.int .i64 m.p)):dM.At W (some ⟨g,0,none⟩) 1 [m]:=
 ⟨nR,by omega,(fun e=>by cases e),fun _=>⟨g,0,rfl,bL W _ h0,fun i hi=>by
   have hi3:i<3:=hi
   match i,hi3 with
   |0,_=>exact h0
   |1,_=>exact h1
   |2,_=>exact h2⟩⟩
def aKr (w:World) (xs:List dV) (n:Int) (r:Ending) (w':World):Prop:=∃A c,r=.returned (.tuple #[.slice A xs.length c,.int .i64 n])∧dM.Own 170 w' w.heap.size A c xs∧Below w.heap.size w w'
theorem aDo (A:Option Addr) (c:Nat) (xs:List dV) (m:dV) (w:World) (h:dM.At w A c xs) (hb:xs.length * 24≤140737488355328) (hf:100≤xs.length):
 Calls prog 77 #[.slice A xs.length c,.agg #[.int .i64 m.s,.int .i64 m.v,.int .i64 m.p]] w (aKr w xs 50):=by
 have H:=Hd h
 clear h
 go_enter func77,ntmps77
 go_wp2_with (go_at_call 84;refine(nJ _ _ _ _ (H.out.below (aB bR _)) hb).mono ?_;rintro e w1 ⟨A1,c1,rfl,hown,hbel⟩)
 have HO:=Hd hown
 have HB:=Hd hbel
 clear hown hbel
 go_wp2
 go_ret2
 exact⟨A1,c1,rfl,HO.out.lower (by simp),aD (aB bR _) HB.out⟩
theorem aDn (A:Option Addr) (c:Nat) (xs:List dV) (m:dV) (w:World) (h:dM.At w A c xs) (hf:xs.length<100):
 Calls prog 77 #[.slice A xs.length c,.agg #[.int .i64 m.s,.int .i64 m.v,.int .i64 m.p]] w (aKr w (xs++[m]) 0):=by
 obtain⟨i0,hi,iz,isz,iby⟩:=info_parts uW
 have H:=Hd h
 clear h
 have hb:xs.length * 24≤140737488355328:=by omega
 go_enter func77,ntmps77
 go_wp2_with fail
 go_region_held3 (fun w'=>w'.cell? ⟨w.heap.size,0,none⟩=some (.int .i64 m.s)∧w'.cell? ⟨w.heap.size,1,none⟩=some (.int .i64 m.v)∧w'.cell? ⟨w.heap.size,2,none⟩=some (.int .i64 m.p))
  (first
    |exact hq
    |exact aP1 hg (fun e=>Nat.lt_irrefl _ (hr _ e.symm)) (fun e=>Nat.lt_irrefl _ (hr _ e.symm)) (fun e=>Nat.lt_irrefl _ (hr _ e.symm)) (by assumption)
    |go_keep)
  (first
    |(go_at_call 84;go_must (refine(nJ _ _ _ _ ?_ hb).mono ?_;(refine H.out.below ?_;(repeat(first|exact bR|refine aB ?_ _|refine aI ?_|refine aL ?_ _)));rintro e w1 ⟨A1,c1,rfl,hown,hbel⟩;obtain⟨hc1,hf1,hz1⟩:=rT hbel;have hq:=aRg hbel (by assumption);have HB:=Hd (aD (w:=w) (by(repeat(first|exact bR|refine aB ?_ _|refine aI ?_|refine aL ?_ _))) hbel);have hr:∀k,(Value.slice A1 xs.length c1).ownBlock=some k→w.heap.size<k:=(by intro k hk;have h1:=(hown.row k hk).1;simp at h1;omega);have HO:=Hd (hown.lower (base':=w.heap.size) (Below.size (w:=w) (B:=w.heap.size) (by(repeat(first|exact bR|refine aB ?_ _|refine aI ?_|refine aL ?_ _)))));clear hown hbel))
    |(refine cO dM _ (by rfl) _ _ _ (by rfl) w.heap.size 170 i0 _ 24 underlying71 hi iz isz iby rfl A1 c1 _ xs (by rfl) rfl ?_ _ _ _ [m] (by rfl) rfl ?_ ?_ ?_ ?_ ?_;(first|exact HO.out.below (aB bR _)|exact HO.out);(refine eU ?_ ?_ ?_ <;> first|(go_simp;done)|(rw[hc1 _ _ (by simp)];go_simp));(simp;omega);(simp;omega);(have h9:=HB.out.size;simp;omega);intro A' c' w' hown hg hat;have HO':=Hd hown;have HG:=Hd hg;clear hown))
 all_goals go_wp2
 all_goals go_ret2
 all_goals refine⟨A',c',by simp,HO'.out,?_⟩
 all_goals first
  |exact bV (aB HB.out _) HG.out (fun k hk=>Nat.le_of_lt (hr k hk))
  |exact bV HB.out HG.out (fun k hk=>Nat.le_of_lt (hr k hk))
def aOe (xs:List dV) (m:dV):List dV:=if 100≤xs.length then xs else xs++[m]
def aOf (xs:List dV):Int:=if 100≤xs.length then 50 else 0
theorem aGz (A:Option Addr) (c:Nat) (xs:List dV) (m:dV) (w:World) (h:dM.At w A c xs) (hb:xs.length * 24≤140737488355328):
 Calls prog 77 #[.slice A xs.length c,.agg #[.int .i64 m.s,.int .i64 m.v,.int .i64 m.p]] w (aKr w (aOe xs m) (aOf xs)):=by
 unfold aOe aOf
 by_cases hf:100≤xs.length
 ·rw[if_pos hf,if_pos hf];exact aDo A c xs m w h hb hf
 ·rw[if_neg hf,if_neg hf];exact aDn A c xs m w h (by omega)
def zX (xs:List dV) (i:Int):Bool:=decide (0≤i∧i<xs.length)
def tG (xs:List dV) (i:Int):dV:=if zX xs i=true then xs.getD i.toNat ⟨0,0,0⟩ else⟨0,0,0⟩
def aBj (xs:List dV) (i:Int):List dV:=if zX xs i=true then xs.eraseIdx i.toNat else xs
theorem vQ (A:Option Addr) (c:Nat) (xs:List dV) (i:Int) (w:World) (h:dM.At w A c xs) (hb:xs.length * 24≤140737488355328):
 Calls prog 83 #[.slice A xs.length c,.int .i64 i] w (Took w (tG xs i) (aBj xs i) (zX xs i)):=by
 unfold tG aBj
 by_cases hi:0≤i∧i<xs.length
 ·have hh:zX xs i=true:=decide_eq_true hi
  rw[if_pos hh,if_pos hh,hh]
  obtain⟨k,rfl⟩:∃k:Nat,i=k:=⟨i.toNat,by omega⟩
  obtain⟨b,off,rfl,_⟩:=h.cell (by omega)
  have hk:k<xs.length:=by omega
  exact yJ b off c k xs _ w h hb hk (by rw[Int.toNat_natCast,List.getD_eq_getElem?_getD,gE hk];rfl)
 ·have hh:zX xs i=false:=decide_eq_false hi
  rw[hh]
  exact vP A c xs i w h hb (by omega)
theorem gV (A:Option Addr) (c:Nat) (xs:List dV) (i:Int) (w:World) (h:dM.At w A c xs) (hb:xs.length * 24≤140737488355328):
 Calls prog 78 #[.slice A xs.length c,.int .i64 i] w (Took w (tG xs i) (aBj xs i) (zX xs i)):=by
 have H:=Hd h
 clear h
 go_enter func78,ntmps78
 go_wp2_with (go_at_call 83;refine(vQ _ _ _ _ _ (H.out.below (aB bR _)) hb).mono ?_;rintro e w1 ⟨A1,c1,rfl,hown,hbel⟩;obtain⟨hc1,hf1,hz1⟩:=rT hbel;have HO:=Hd hown;have HB:=Hd hbel;clear hown hbel)
 refine bodyPost_ret (v:=.tuple #[.agg #[.int .i64 (tG xs i).s,.int .i64 (tG xs i).v,.int .i64 (tG xs i).p],.slice A1 (aBj xs i).length c1,.bool (zX xs i)]) ?_ rfl ⟨A1,c1,rfl,?_,?_⟩
 ·simp[results,results78,go_sem,hc1]
 ·exact(((HO.out.far (by simp) _).far (by simp) _).far (by simp) _).lower (by simp)
 ·exact aH (aH (aH (aD (aB bR _) HB.out) (by simp) _) (by simp) _) (by simp) _
theorem aQt (xs:List iX) (k:Nat) (hk:k<xs.length) (x:iX):((dS.cs xs).set (k * 2) (.int .i64 x.v)).set (k * 2+1) (.int .i64 x.p)=dS.cs (xs.set k x):=by
 refine dS.cs_ext _ _ (by rw[List.length_set,List.length_set,dS.cs_length,List.length_set]) fun q y hy j hj=>?_
 have hj2:j<2:=hj
 have hl:(dS.cs xs).length=xs.length * 2:=dS.cs_length xs
 rw[List.getElem?_set,List.getElem?_set]
 simp only[List.length_set,hl]
 have hsz:dS.sz=2:=rfl
 rw[hsz]
 by_cases hq:k=q
 ·subst hq
  have e:y=x:=by
   rw[List.getElem?_set_self hk] at hy
   exact(Option.some.inj hy).symm
  subst e
  match j,hj2 with
  |0,_=>rw[if_neg (by omega),if_pos (by omega),if_pos (by omega)];rfl
  |1,_=>rw[if_pos rfl,if_pos (by omega)];rfl
 ·rw[List.getElem?_set_ne hq] at hy
  rw[if_neg (by omega),if_neg (by omega)]
  exact dS.cs_get xs q y hy j hj
theorem qQ {w:World} {A:Option Addr} {c:Nat} {xs:List iX} (h:dS.At w A c xs) (k:Nat) (x:iX) (hx:xs[k]?=some x):
 ∃b off,A=some ⟨b,off,none⟩∧b<w.heap.size∧w.cell? ⟨b,off+k * 2,none⟩=some (.int .i64 x.v)∧w.cell? ⟨b,off+k * 2+1,none⟩=some (.int .i64 x.p):=by
 obtain⟨b,off,hA,hlt,hc⟩:=h.get k x hx
 exact⟨b,off,hA,hlt,hc 0 (by decide),hc 1 (by decide)⟩
theorem wM {w:World} {base:Nat} {A:Option Addr} {c:Nat} {xs:List iX} (h:dS.Own 147 w base A c xs) (k:Nat) (x:iX) (hx:xs[k]?=some x):
 ∃g,A=some ⟨g,0,none⟩∧base≤g∧g<w.heap.size∧w.cell? ⟨g,k * 2,none⟩=some (.int .i64 x.v)∧w.cell? ⟨g,k * 2+1,none⟩=some (.int .i64 x.p):=by
 obtain⟨g,off,rfl,hlt,h0,h1⟩:=qQ h.at_ k x hx
 obtain⟨rfl,hge,_⟩:=lB h
 rw[Nat.zero_add] at h0 h1
 exact⟨g,rfl,hge,hlt,h0,h1⟩
theorem aHb {w:World} {base g c:Nat} {xs:List iX} (h:dS.Own 147 w base (some ⟨g,0,none⟩) c xs) (k:Nat) (hk:k<xs.length) (x:iX):
 dS.Own 147 ((w.setCell ⟨g,k * 2,none⟩ (.int .i64 x.v)).setCell ⟨g,k * 2+1,none⟩ (.int .i64 x.p)) base (some ⟨g,0,none⟩) c (xs.set k x):=by
 have h1:=(World.ownsRow.stored h (k * 2) (.int .i64 x.v)).1
 have h2:=(World.ownsRow.stored h1 (k * 2+1) (.int .i64 x.p)).1
 unfold En.Own
 rw[List.length_set,←aQt xs k hk x]
 exact h2
def aBp (xs:List iX) (m:dV):List iX:=if 0≤m.s∧m.s<xs.length∧(xs.getD m.s.toNat ⟨0,0⟩).v<m.v then xs.set m.s.toNat ⟨m.v,m.p⟩ else xs
theorem aF5 (A:Option Addr) (c:Nat) (xs:List iX) (m:dV) (w:World) (h:dS.At w A c xs) (hb:xs.length * 16≤140737488355328) (ho:m.s<0∨(0≤m.s∧(xs.length:Int)≤m.s)):
 Calls prog 80 #[.slice A xs.length c,.agg #[.int .i64 m.s,.int .i64 m.v,.int .i64 m.p]] w (eV dS 147 w xs):=by
 have H:=Hd h
 clear h
 rcases ho with hneg|⟨hneg,hbig⟩
 ·have g1:decide (0≤m.s)=false:=decide_eq_false (by omega)
  go_enter func80,ntmps80
  go_wp2_with (go_at_call 154;refine(lD _ _ _ _ (H.out.below (aB bR _)) hb).mono ?_;rintro e w1 ⟨A1,c1,rfl,hown,hbel⟩;have q0:w1.cell? ⟨w.heap.size,0,none⟩=some (.int .i64 m.s):=aC hbel (aS w _ _ _);have HO:=Hd hown;have HB:=Hd (aD (aB bR _) hbel);clear hown hbel)
  go_quiet (fail)
  go_wp2
  go_ret
  exact⟨A1,c1,rfl,HO.out.lower (by simp),aL HB.out _⟩
 ·have g1:=decide_eq_true hneg
  have g2:decide (m.s<(xs.length:Int))=false:=decide_eq_false (by omega)
  go_enter func80,ntmps80
  go_wp2_with (go_at_call 154;refine(lD _ _ _ _ (H.out.below (aB bR _)) hb).mono ?_;rintro e w1 ⟨A1,c1,rfl,hown,hbel⟩;have q0:w1.cell? ⟨w.heap.size,0,none⟩=some (.int .i64 m.s):=aC hbel (aS w _ _ _);have HO:=Hd hown;have HB:=Hd (aD (aB bR _) hbel);clear hown hbel)
  go_quiet (fail)
  go_wp2
  go_ret
  exact⟨A1,c1,rfl,HO.out.lower (by simp),aL HB.out _⟩
theorem aK9 (A:Option Addr) (c k:Nat) (xs:List iX) (m:dV) (w:World) (h:dS.At w A c xs) (hb:xs.length * 16≤140737488355328) (hs:m.s=k) (hk:k<xs.length) (x:iX) (hx:xs[k]?=some x):
 Calls prog 80 #[.slice A xs.length c,.agg #[.int .i64 m.s,.int .i64 m.v,.int .i64 m.p]] w (eV dS 147 w (if x.v<m.v then xs.set k ⟨m.v,m.p⟩ else xs)):=by
 have H:=Hd h
 clear h
 have HX:=Hd hx
 clear hx
 rw[hs]
 clear hs
 by_cases hv:x.v<m.v
 ·rw[if_pos hv]
  go_enter func80,ntmps80
  go_wp2_with (go_at_call 154;refine(lD _ _ _ _ (H.out.below (aB bR _)) hb).mono ?_;rintro e w1 ⟨A1,c1,rfl,hown,hbel⟩;have q0:w1.cell? ⟨w.heap.size,0,none⟩=some (.int .i64 k):=aC hbel (aS w _ _ _);have q1:w1.cell? ⟨w.heap.size,1,none⟩=some (.int .i64 m.v):=aC hbel (aS w _ _ _);have q2:w1.cell? ⟨w.heap.size,2,none⟩=some (.int .i64 m.p):=aC hbel (aS w _ _ _);have HO:=Hd hown;have HB:=Hd (aD (aB bR _) hbel);clear hown hbel)
  obtain⟨g,rfl,hge,hlt,r0,r1⟩:=wM HO.out k x HX.out
  have f0:=HO.out.free (k * 2)
  have f1:=HO.out.free (k * 2+1)
  have hge':g≠w.heap.size:=by simp at hge;omega
  go_quiet (fail)
  go_wp2
  go_ret
  exact⟨some ⟨g,0,none⟩,c1,by simp,(aHb (HO.out.drewN nq) k hk ⟨m.v,m.p⟩).lower (by simp),aH (aH (aL HB.out _) (by simp at hge ⊢;omega) _) (by simp at hge ⊢;omega) _⟩
 ·rw[if_neg hv]
  have hv':=decide_eq_false hv
  go_enter func80,ntmps80
  go_wp2_with (go_at_call 154;refine(lD _ _ _ _ (H.out.below (aB bR _)) hb).mono ?_;rintro e w1 ⟨A1,c1,rfl,hown,hbel⟩;have q0:w1.cell? ⟨w.heap.size,0,none⟩=some (.int .i64 k):=aC hbel (aS w _ _ _);have q1:w1.cell? ⟨w.heap.size,1,none⟩=some (.int .i64 m.v):=aC hbel (aS w _ _ _);have q2:w1.cell? ⟨w.heap.size,2,none⟩=some (.int .i64 m.p):=aC hbel (aS w _ _ _);have HO:=Hd hown;have HB:=Hd (aD (aB bR _) hbel);clear hown hbel)
  obtain⟨g,rfl,hge,hlt,r0,r1⟩:=wM HO.out k x HX.out
  have f0:=HO.out.free (k * 2)
  have f1:=HO.out.free (k * 2+1)
  have hge':g≠w.heap.size:=by simp at hge;omega
  go_quiet (fail)
  go_wp2
  go_ret
  exact⟨some ⟨g,0,none⟩,c1,rfl,(HO.out.drewN nq).lower (by simp),aL HB.out _⟩
theorem aF6 (A:Option Addr) (c:Nat) (xs:List iX) (m:dV) (w:World) (h:dS.At w A c xs) (hb:xs.length * 16≤140737488355328):
 Calls prog 80 #[.slice A xs.length c,.agg #[.int .i64 m.s,.int .i64 m.v,.int .i64 m.p]] w (eV dS 147 w (aBp xs m)):=by
 by_cases hi:0≤m.s∧m.s<xs.length
 ·obtain⟨k,hs⟩:∃k:Nat,m.s=k:=⟨m.s.toNat,by omega⟩
  have hk:k<xs.length:=by omega
  have hx:=gE hk
  have e:aBp xs m=if(xs[k]).v<m.v then xs.set k ⟨m.v,m.p⟩ else xs:=by
   unfold aBp
   rw[hs,Int.toNat_natCast,List.getD_eq_getElem?_getD,hx,Option.getD_some]
   by_cases hv:(xs[k]).v<m.v
   ·rw[if_pos hv,if_pos ⟨by omega,by omega,hv⟩]
   ·rw[if_neg hv,if_neg (fun h=>hv h.2.2)]
  rw[e]
  exact aK9 A c k xs m w h hb hs hk _ hx
 ·rw[show aBp xs m=xs from if_neg (fun h=>hi ⟨h.1,h.2.1⟩)]
  exact aF5 A c xs m w h hb (by omega)
end Go.Proofs.YtlibhkkckgkkkaaGreatDoor.Mar
