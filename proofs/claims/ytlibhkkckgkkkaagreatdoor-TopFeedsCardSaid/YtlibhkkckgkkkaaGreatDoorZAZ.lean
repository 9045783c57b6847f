/- Part of the proof of TopFeeds: ValB AwB LwA ValC LwB ValD LwC. -/
import Derived.Test.YtlibhkkckgkkkaaGreatDoorZAT
import Derived.Test.YtlibhkkckgkkkaaGreatDoorZAU
import Derived.Test.YtlibhkkckgkkkaaGreatDoorZAV
import Derived.Test.YtlibhkkckgkkkaaGreatDoorZAX
import Derived.Sort.OwnSortedInts
set_option maxHeartbeats 4000000
set_option maxRecDepth 100000
namespace Go.Proofs.YtlibhkkckgkkkaaGreatDoor.Tf
open Go.RowKit Go.Proofs.YtlibhkkckgkkkaaGreatDoor.Mem Go.Proofs.YtlibhkkckgkkkaaGreatDoor.Boo Go.Proofs.Tryz
def dZ:En Int:=⟨fun x=>[.int .i64 x],1,by omega,fun _=>rfl,fun x u hu=>by simp at hu;subst hu;rfl⟩
theorem aJk (xs:List Int):dZ.cs xs=xs.map (Value.int .i64):=by
 induction xs with
 |nil=>rfl
 |cons x xs ih=>rw[En.cs_cons,ih];rfl
theorem wX:(prog.info? 3).map (fun i=>(i.zero,i.size,i.bytes))=some (some (.int .i64 0),1,8):=by kernel_rfl
def eJ (xs:List Int):List Int:=xs.mergeSort fun x y=>decide (x≤y)
theorem oW (xs:List Int):(eJ xs).length=xs.length:=List.length_mergeSort _
theorem aF1 (base c n:Nat) (A:Option Addr) (xs:List Int) (hn:xs.length=n) (w:World) (h:dZ.Own 3 w base A c xs) (hs:xs.length≤1000000):
 Calls prog 315 #[.slice A n c] w fun e w'=>e=.returned (.tuple #[])∧dZ.Own 3 w' base A c (eJ xs)∧w.grownBy w' (Value.slice A n c).ownBlock:=by
 subst hn
 by_cases h0:xs=[]
 ·subst h0
  refine(Tryz.slices_Sort_int_none A c w).mono ?_
  rintro e w' ⟨rfl,rfl⟩
  exact⟨rfl,by rw[show eJ []=[] from by simp[eJ]];exact h,World.grownBy.refl _ _⟩
 ·have hpos:0<xs.length:=List.length_pos_iff.2 h0
  rcases h.2 with⟨_,hz⟩|⟨g,cap,cur,hv,hg,hb,h1,h2,h3,h4⟩
  ·omega
  ·injection hv with e1 _ e3
   subst e1
   subst e3
   have ht:cur.toList.take xs.length=xs.map (Value.int .i64):=by
    have:=h4
    rw[aJk] at this
    simpa[dZ] using this
   refine(Tryz.slices_Sort_int g 0 c xs w (holds_of_blockI hb ht) (gLt hb) (by omega)).mono ?_
   rintro e w' ⟨rfl,m,os,rfl⟩
   refine⟨rfl,?_,grownBy_sortedI _⟩
   have:=ownsRow_sortedI (n:=m) (os:=os) (ss:=xs) (ts:=eJ xs) (oW xs) hg hb h1 h2 h3
   unfold En.Own
   rw[aJk,oW]
   exact this
def bJ (L:List aW):List Int:=L.map (·.p)
theorem wI {L:List aW} {i:Nat} {x:aW} (hx:L[i]?=some x):bJ (L.take (i+1))=bJ (L.take i)++[x.p]:=by
 unfold bJ
 rw[List.take_add_one,hx,List.map_append]
 rfl
def vO (W:World) (b:Nat) (u v:Value):Prop:=W.heap[b]?=some (.cells #[u,v] 392 (0,0))
theorem vO.set1 {W:World} {b:Nat} {u v:Value} (h:vO W b u v) (v':Value):vO (W.setCell ⟨b,1,none⟩ v') b u v':=aE W b 1 _ 392 _ h
theorem litZ (W:World) (x:Int):dZ.At (W.alloc (.cells #[.int .i64 x] 3)) (some ⟨W.heap.size,0,none⟩) 1 [x]:=
 (En.Own.lit dZ W 0 3 #[.int .i64 x] [x] (Nat.zero_le _) (by simp) rfl).at_
theorem aPa (L:List aW) (hL:L.length≤8) (A:Option Addr) (c n:Nat) (hn:L.length=n) (w:World) (h:dF.At w A c L):
 Calls prog 318 #[.slice A n c] w fun e w'=>∃PA pc,e=.returned (.agg #[.slice A n c,.slice PA n pc])∧dZ.Own 3 w' w.heap.size PA pc (eJ (bJ L))∧Below w.heap.size w w':=by
 obtain⟨i0,hi,iz,isz,iby⟩:=info_parts wX
 have H:=Hd h
 have HN:=Hd hn
 have HC:Hid (n≤8∧n≤c∧c≤9223372036854775807):=Hd ⟨by omega,by have:=h.le;omega,h.max⟩
 clear hL h hn
 go_enter func318,ntmps318
 go_wp2_with fail
 go_loopw [10] (fun iv wr=>∃(i:Nat) (PA:Option Addr) (pc:Nat),i≤n∧iv=.int .i64 i∧Hid (Below w.heap.size w wr)∧Hid (vO wr (w.heap.size+1) (.slice A n c) (.slice PA i pc))∧Hid (vO wr w.heap.size (.slice none 0 0) (.slice none 0 0))∧Hid (dZ.Own 3 wr (w.heap.size+2) PA pc (bJ (L.take i)))) (fun iv _=>n-(intOf iv).toNat)
 case atStart=>
  refine⟨0,none,0,Nat.zero_le _,rfl,Hd (aB (aB bR _) _),Lib.hid ?_,Lib.hid ?_,Hd (En.Own.none_ _ _ _)⟩
  ·have:=aN (w.alloc (.cells #[.slice none 0 0,.slice none 0 0] 392)) (.cells #[.slice A n c,.slice none 0 0] 392)
   rw[sz1] at this
   exact this
  ·exact(Below.heap_alloc _ _ _ (by simp)).trans (aN w _)
 case round=>
  obtain⟨i,PA,pc,hin,rfl,HB,HX,HR,HO⟩:=hrel
  have hl:Hid ((bJ (L.take i)).length=i):=Hd (by unfold bJ;rw[List.length_map,List.length_take,HN.out,Nat.min_eq_left hin])
  have x1:wr.cell? ⟨w.heap.size+1,1,none⟩=some (.slice PA i pc):=aA HX.out 1
  have x0:wr.cell? ⟨w.heap.size+1,0,none⟩=some (.slice A n c):=aA HX.out 0
  have xf:∀j,wr.frozen? ⟨w.heap.size+1,j,none⟩=false:=fun j=>fH HX.out j
  have r0:wr.cell? ⟨w.heap.size,0,none⟩=some (.slice none 0 0):=aA HR.out 0
  have r1:wr.cell? ⟨w.heap.size,1,none⟩=some (.slice none 0 0):=aA HR.out 1
  have rf:∀j,wr.frozen? ⟨w.heap.size,j,none⟩=false:=fun j=>fH HR.out j
  have xl:w.heap.size+1<wr.heap.size:=(gLt HX.out)
  have rl:w.heap.size<wr.heap.size:=by omega
  by_cases hlt:i<n
  ·have hx:L[i]?=some (L[i]'(by have:=HN.out;omega)):=gE _
   obtain⟨b,off,rfl,hbl,c0,c1⟩:=lG (H.out.below HB.out) i _ hx
   have hpt:=wI hx
   generalize L[i]'(by have:=HN.out;omega)=x at c0 c1 hx hpt
   obtain⟨xs,xp⟩:=x
   dsimp only at c0 c1 hpt
   have HPT:=Hd hpt
   have HZI:Hid (wrap64 ((i:Int)+1)=((i+1:Nat):Int)):=Hd (by rw[Mem.w64 (by omega) (by have:=HC.out;omega)];omega)
   have zlt:(i:Int)<(n:Int):=by omega
   have HLT:=Hd hlt
   clear hx hpt hlt
   go_wp2_with (at_builtin;refine aV dZ _ rfl _ _ 23 rfl (w.heap.size+2) 3 i0 _ 8 underlying23 hi iz isz iby rfl PA pc i (bJ (L.take i)) rfl hl.out.symm ?own _ 1 1 [xp] rfl rfl ?at_ ?m1 ?m2 ?m3 ?_)
   case own=>exact HO.out.below (aB (aB bR _) _)
   case at_=>first|exact litZ _ xp|(have:=litZ (wr.alloc (.cells #[.string xs,.int .i64 xp] 44)) xp;simpa using this)
   case m1=>have:=HC.out;rw[hl.out];simp;omega
   case m2=>have:=HC.out;rw[hl.out];simp;omega
   case m3=>simp;omega
   intro A3 c3 w3 hown hg hat
   have hne:(Value.slice PA i pc).ownBlock≠some (w.heap.size+1):=fun e=>by
    have:=HO.out.row (w.heap.size+1) (by rw[hl.out];exact e)
    omega
   have hne0:(Value.slice PA i pc).ownBlock≠some w.heap.size:=fun e=>by
    have:=HO.out.row w.heap.size (by rw[hl.out];exact e)
    omega
   rw[hl.out] at hg
   have hX3:vO w3 (w.heap.size+1) (.slice (some ⟨b,off,none⟩) n c) (.slice PA i pc):=gO (aB (aB bR _) _) HX.out hg hne
   have hR3:vO w3 w.heap.size (.slice none 0 0) (.slice none 0 0):=gO (aB (aB bR _) _) HR.out hg hne0
   have y1:w3.cell? ⟨w.heap.size+1,1,none⟩=some (.slice PA i pc):=aA hX3 1
   have yf:∀j,w3.frozen? ⟨w.heap.size+1,j,none⟩=false:=fun j=>fH hX3 j
   have hlen:(bJ (L.take i)++[xp]).length=i+1:=by rw[lA,hl.out];rfl
   have HX4:Hid (vO (w3.setCell ⟨w.heap.size+1,1,none⟩ (.slice A3 (i+1) c3)) (w.heap.size+1) (.slice (some ⟨b,off,none⟩) n c) (.slice A3 (i+1) c3)):=Hd (hX3.set1 _)
   have HR4:Hid (vO (w3.setCell ⟨w.heap.size+1,1,none⟩ (.slice A3 (i+1) c3)) w.heap.size (.slice none 0 0) (.slice none 0 0)):=Hd ((aG _ _ _ _ (by simp)).trans hR3)
   have HO4:Hid (dZ.Own 3 (w3.setCell ⟨w.heap.size+1,1,none⟩ (.slice A3 (i+1) c3)) (w.heap.size+2) A3 c3 (bJ (L.take (i+1)))):=Hd (by rw[HPT.out];exact hown.far (by simp) _)
   have HB4:Hid (Below w.heap.size w (w3.setCell ⟨w.heap.size+1,1,none⟩ (.slice A3 (i+1) c3))):=Hd (aH (bV (aB (aB HB.out _) _) hg (fun r hr=>by have:=HO.out.row r (by rw[hl.out];exact hr);omega)) (by simp) _)
   first|rw[hlen]|rw[hl.out]
   clear hown hg hat hne hne0 hX3 hR3 hlen
   go_wp2_with fail
   go_roundw
   case rel=>first|exact⟨i+1,A3,c3,HLT.out,(by first|rw[HZI.out]|rfl|simp),HB4,HX4,HR4,HO4⟩|((repeat apply Exists.intro);exact⟨⟨i+1,A3,c3,HLT.out,(by first|rw[HZI.out]|rfl|simp),HB4,HX4,HR4,HO4⟩,rfl⟩)
   case measure=>have:=HLT.out;(try rw[HZI.out]);simp[intOf];omega
  ·obtain rfl:i=n:=by omega
   have HOn:Hid (dZ.Own 3 wr (w.heap.size+2) PA pc (bJ L)):=Hd (by have:=HO.out;rwa [←HN.out,List.take_length] at this)
   have hpl:(bJ L).length=i:=by unfold bJ;rw[List.length_map,HN.out]
   have HPL:=Hd hpl
   clear hlt hpl
   go_wp2_with (go_at_call 315;refine(aF1 _ pc i PA (bJ L) HPL.out _ HOn.out (by have:=HPL.out;have:=HC.out;omega)).mono ?_;rintro e W2 ⟨rfl,ho2,hg2⟩;have hX2:=gO bR HX.out hg2 (fun e=>by have:=HOn.out.row (w.heap.size+1) (by rw[HPL.out];exact e);omega);have hR2:=gO bR HR.out hg2 (fun e=>by have:=HOn.out.row w.heap.size (by rw[HPL.out];exact e);omega);have y0:W2.cell? ⟨w.heap.size+1,0,none⟩=some (.slice A i c):=aA hX2 0;have y1:W2.cell? ⟨w.heap.size+1,1,none⟩=some (.slice PA i pc):=aA hX2 1;have q0:W2.cell? ⟨w.heap.size,0,none⟩=some (.slice none 0 0):=aA hR2 0;have q1:W2.cell? ⟨w.heap.size,1,none⟩=some (.slice none 0 0):=aA hR2 1;have qf:∀j,W2.frozen? ⟨w.heap.size,j,none⟩=false:=fun j=>fH hR2 j;have HO2:=Hd ho2;have HB2:Hid (Below w.heap.size w W2):=Hd (bV HB.out hg2 (fun r hr=>by have:=HOn.out.row r (by rw[HPL.out];exact hr);omega));clear hX2 hR2 ho2 hg2)
   refine bodyPost_ret (v:=.agg #[.slice A i c,.slice PA i pc]) (by simp[results,results318,go_sem, *]) rfl ⟨PA,pc,rfl,?_,?_⟩
   ·exact((HO2.out.far (by simp) _).far (by simp) _).lower (by omega)
   ·exact aH (aH HB2.out (by simp) _) (by simp) _
structure lM (k:Int) (xs:List Int) (t:ByteArray):Prop where
 lo:1≤k
 hi:k≤255
 len:xs.length≤20
 odd:∀x∈xs,-1125899906842624≤x∧x≤1125899906842624
 text:t.size≤2000
theorem aQc:Ent 296:=enters_of func296 (by kernel_rfl) rfl
theorem aLx (x:Int) (h:-1125899906842624≤x∧x≤1125899906842624) (w:World):Calls prog 296 #[.int .i64 x] w fun e w'=>e=.returned (.bool false)∧w=w':=by
 have z1:¬x < -1125899906842624:=by omega
 have z2:¬x>1125899906842624:=by omega
 clear h
 go_enter func296,ntmps296
 go_wp2
 go_ret
 exact⟨rfl,rfl⟩
theorem jZ {w:World} {A:Option Addr} {c:Nat} {xs:List Int} (h:dZ.At w A c xs) (k:Nat) (x:Int) (hx:xs[k]?=some x):
 ∃b off,A=some ⟨b,off,none⟩∧b<w.heap.size∧w.cell? ⟨b,off+k,none⟩=some (.int .i64 x):=by
 obtain⟨b,off,hA,hlt,hc⟩:=h.get k x hx
 have:=hc 0 (by decide)
 exact⟨b,off,hA,hlt,by simpa[dZ] using this⟩
theorem aEb (A:Option Addr) (c n:Nat) (xs:List Int) (hn:xs.length=n) (h:∀x∈xs,-1125899906842624≤x∧x≤1125899906842624) (w:World) (hat:dZ.At w A c xs):
 Calls prog 283 #[.slice A n c,.func (.func 296) #[] #[]] w fun e w'=>e=.returned (.int .i64 (-1))∧w=w':=by
 have H:=Hd hat
 have hle:n≤c:=by rw[←hn];exact hat.le
 have hmax:=hat.max
 have HN:=Hd hn
 have HX:=Hd h
 have he2:∀args W,(callFunc 296 args).run prog W=.ok (.enter 296 args) W:=aQc
 clear h hn hat
 go_enter func283,ntmps283
 go_wp2
 go_loopw [8] (fun iv wr=>∃k:Nat,k≤n∧iv=.int .i64 k∧w=wr) (fun iv _=>n-(intOf iv).toNat)
 case atStart=>exact⟨0,Nat.zero_le _,rfl,rfl⟩
 case round=>
  obtain⟨k,hk,rfl,rfl⟩:=hrel
  by_cases hlt:k<n
  ·have hx:xs[k]?=some (xs[k]'(by have:=HN.out;omega)):=gE _
   obtain⟨b,off,rfl,hbl,c0⟩:=jZ H.out k _ hx
   generalize xs[k]'(by have:=HN.out;omega)=x at c0 hx
   have HM2:=Hd (fun W=>aLx x (HX.out x (List.mem_of_getElem? hx)) W)
   clear hx
   go_wp2_with fail
   refine(HM2.out _).mono ?_
   rintro e w2 ⟨rfl,rfl⟩
   go_wp2_with fail
   go_roundw
   case rel=>exact⟨k+1,by omega,by go_num,trivial⟩
   case measure=>simp[intOf];omega
  ·obtain rfl:k=n:=by omega
   go_wp2
   go_ret
   exact⟨rfl,rfl⟩
theorem aIc (A:Option Addr) (c n:Nat) (xs:List Int) (hn:xs.length=n) (h:∀x∈xs,-1125899906842624≤x∧x≤1125899906842624) (w:World) (hat:dZ.At w A c xs):
 Calls prog 225 #[.slice A n c,.func (.func 296) #[] #[]] w fun e w'=>e=.returned (.bool false)∧w=w':=by
 have HI:=Hd (aEb A c n xs hn h w hat)
 clear hn h hat
 go_enter func225,ntmps225
 go_wp2_with (go_at_call 283;go_must (refine HI.out.mono ?_;rintro e w' ⟨rfl,rfl⟩))
 go_ret
 exact⟨rfl,rfl⟩
theorem nG (k:Int) (A:Option Addr) (c n:Nat) (xs:List Int) (t:ByteArray) (hn:xs.length=n) (h:lM k xs t) (w:World) (hat:dZ.At w A c xs):
 Calls prog 250 #[.agg #[.int .i64 k,.slice A n c,.string t]] w (Ret (.bool true) w):=by
 obtain⟨h1,h2,h3,h4,h5⟩:=h
 have HC:Hid (∀W,Below w.heap.size w W→Calls prog 225 #[.slice A n c,.func (.func 296) #[] #[]] W fun e w'=>e=.returned (.bool false)∧W=w'):=Hd (fun W hW=>aIc A c n xs hn h4 W (hat.below hW))
 have z1:k≥1:=h1
 have z2:k≤255:=h2
 have z3:(n:Int)≤20:=by omega
 have z4:(t.size:Int)≤2000:=by omega
 clear hat h1 h2 h3 h4 h5 hn
 go_enter func250,ntmps250
 go_wp2_with (go_at_call 225;go_must (refine(HC.out _ blw).mono ?_;rintro e w' ⟨rfl,rfl⟩))
 go_ret
 exact⟨rfl,blw⟩
def eL (k:Int) (xs:List Int):List ByteArray:=(k::xs).map bP
def xZ (k:Int) (xs:List Int) (t:ByteArray):ByteArray:=⟨(Lib.join ((eL k xs).map (·.data.toList)) [32]).toArray⟩++⟨#[58]⟩++t
theorem aDr (c n:Int) (w:World) (h:I64 c) (hn:0<n):Calls prog 7 #[.int .i64 c,.int .i64 n] w fun e w'=>e=.returned (.int .i64 (dG c n))∧w=w':=by
 obtain⟨h,h'⟩:=h
 by_cases hc:c<0
 ·rw[show dG c n=(-(c+1)) % n from if_pos hc]
  go_enter func7,ntmps7
  go_wp2
  go_ret
  exact⟨kD (lW c n hc),rfl⟩
 ·rw[show dG c n=c % n from if_neg hc]
  go_enter func7,ntmps7
  go_wp2
  go_ret
  exact⟨rfl,rfl⟩
theorem zI (c n:Int) (w:World) (h:I64 c) (hn:0<n):Calls prog 17 #[.int .i64 c,.int .i64 n] w fun e w'=>e=.returned (.int .i64 (dG c n))∧w=w':=by
 obtain⟨h,h'⟩:=h
 by_cases hc:c<0
 ·rw[show dG c n=(-(c+1)) % n from if_pos hc]
  go_enter func17,ntmps17
  go_wp2
  go_ret
  exact⟨kD (lW c n hc),rfl⟩
 ·rw[show dG c n=c % n from if_neg hc]
  go_enter func17,ntmps17
  go_wp2
  go_ret
  exact⟨rfl,rfl⟩
theorem zH (c n:Int) (w:World) (h:I64 c) (hn:0<n):Calls prog 21 #[.int .i64 c,.int .i64 n] w fun e w'=>e=.returned (.int .i64 (dG c n))∧w=w':=by
 obtain⟨h,h'⟩:=h
 by_cases hc:c<0
 ·rw[show dG c n=(-(c+1)) % n from if_pos hc]
  go_enter func21,ntmps21
  go_wp2
  go_ret
  exact⟨kD (lW c n hc),rfl⟩
 ·rw[show dG c n=c % n from if_neg hc]
  go_enter func21,ntmps21
  go_wp2
  go_ret
  exact⟨rfl,rfl⟩
theorem wL (c n:Int) (w:World) (h:I64 c) (hn:0<n):Calls prog 207 #[.int .i64 c,.int .i64 n] w fun e w'=>e=.returned (.int .i64 (dG c n))∧w=w':=by
 obtain⟨h,h'⟩:=h
 by_cases hc:c<0
 ·rw[show dG c n=(-(c+1)) % n from if_pos hc]
  go_enter func207,ntmps207
  go_wp2
  go_ret
  exact⟨kD (lW c n hc),rfl⟩
 ·rw[show dG c n=c % n from if_neg hc]
  go_enter func207,ntmps207
  go_wp2
  go_ret
  exact⟨rfl,rfl⟩
theorem vK {α:Type} {d:En α} {W W':World} {A:Option Addr} {c:Nat} {xs:List α} (h:d.At W A c xs) (hb:∀b o f,0<xs.length→A=some ⟨b,o,f⟩→W'.heap[b]?=W.heap[b]?):d.At W' A c xs:=by
 rcases Nat.eq_zero_or_pos xs.length with h0|h0
 ·exact⟨h.le,h.max,h.nil,fun h=>by omega⟩
 ·obtain⟨b,o,rfl,_⟩:=h.cell h0
  exact jY h (hb b o none h0 rfl)
structure Src (sb B:Nat) (w:World):Prop where
 ex:∃(xs:List Int) (A:Option Addr) (c:Nat),w.heap[sb]?=some (.cells #[.slice A xs.length c] 130 (0,0))∧dZ.At w A c xs∧(∀b o f,0<xs.length→A=some ⟨b,o,f⟩→b≠sb∧b<B)∧∀x∈xs,I64 x
 lt:sb<B
 le:B≤w.heap.size
section
variable {sb B:Nat} {w w' W:World}
theorem Src.below (h:Src sb B w) (k:Below w.heap.size w w'):Src sb B w':=by
 obtain⟨⟨xs,A,c,h1,h2,h3,h4⟩,h5,h6⟩:=h
 exact⟨⟨xs,A,c,(k.block sb (by omega)).trans h1,h2.below k,h3,h4⟩,h5,Nat.le_trans h6 k.size⟩
theorem Src.set (h:Src sb B w) {p:Addr} (hp:B≤p.block) (v:Value):Src sb B (w.setCell p v):=by
 obtain⟨⟨xs,A,c,h1,h2,h3,h4⟩,h5,h6⟩:=h
 exact⟨⟨xs,A,c,(aG w p v sb (by omega)).trans h1,vK h2 (fun b o f h0 e=>aG w p v b (by have:=(h3 b o f h0 e).2;omega)),h3,h4⟩,h5,by simpa[World.setCell] using h6⟩
def aQ (sb B:Nat) (w w':World):Prop:=Src sb B w'∧Fr [sb] w w'
theorem aQ.refl (h:Src sb B w):aQ sb B w w:=⟨h,Fr.refl _ _⟩
theorem aQ.below (h:aQ sb B w W) (k:Below W.heap.size W w'):aQ sb B w w':=⟨h.1.below k,h.2.then_below k⟩
theorem aQ.set (h:aQ sb B w W) (hB:B≤w.heap.size) {p:Addr} (hp:w.heap.size≤p.block) (v:Value):aQ sb B w (W.setCell p v):=⟨h.1.set (by omega) v,h.2.set (.inr hp) v⟩
theorem aQ.alloc (h:aQ sb B w W) (o:Obj):aQ sb B w (W.alloc o):=h.below (aB bR _)
theorem aQ.drew (h:aQ sb B w W):aQ sb B w W.drew:=h.below (aI bR)
theorem aQ.drewN (h:aQ sb B w W) (n:Nat):aQ sb B w (W.drewN n):=h.below (aL bR n)
theorem aQ.trans (h:aQ sb B w W) (k:aQ sb B W w'):aQ sb B w w':=⟨k.1,h.2.step k.2 (New.refl _ _)⟩
theorem aQ.row (h:aQ sb B W w') {b:Nat} {o:Obj} (hb:W.heap[b]?=some o) (hne:b≠sb):w'.heap[b]?=some o:=(h.2.block b (gLt hb) (by simpa using hne)).trans hb
end
theorem aC3 (g o n c:Nat) (h:n+1≤c) (W:World):(Instr.slice 23 (.slice (some ⟨g,o,none⟩) (n+1) c) (some (.int .i64 1)) none none).run prog W=.ok (.slice (some ⟨g,if c=1 then o else o+1,none⟩) n (c-1)) W:=by
 have hs:(sizeOf (prog.elem 23)).run prog W=.ok 1 W:=by kernel_rfl
 have:=run_slice_l (P:=prog) W 23 (some ⟨g,o,none⟩) (n+1) c (by kernel_rfl) .i64 1 (by omega) (by omega)
 rw[this,hs]
 simp only[Result.andThen,sliced]
 by_cases h1:c=1
 ·subst h1
  simp
 ·simp[h1,Addr.add]
theorem fG (sb B:Nat) (n:Nat) (hn:0<n) (w:World) (h:Src sb B w):
 Calls prog 117 #[.pointer (some ⟨sb,0,none⟩),.int .i64 (n:Int)] w fun e w'=>∃k:Nat,e=.returned (.int .i64 (k:Int))∧k<n∧aQ sb B w w':=by
 have HS:=Hd h
 obtain⟨⟨xs,A,c,h1,h2,h3,h4⟩,h5,h6⟩:=h
 have c0:w.cell? ⟨sb,0,none⟩=some (.slice A xs.length c):=aA h1 0
 have f0:w.frozen? ⟨sb,0,none⟩=false:=fH h1 0
 have hlt:=(gLt h1)
 have H5:=Hd h5
 have H6:=Hd h6
 cases xs with
 |nil=>
  clear h1 h2 h3 h4 h5 h6
  go_enter func117,ntmps117
  go_wp2_with fail
  go_ret
  exact⟨0,rfl,hn,HS.out,Fr.refl _ _⟩
 |cons x r=>
  obtain⟨g,o,rfl,hg,hc⟩:=h2.cell (by simp)
  have hx:w.cell? ⟨g,o,none⟩=some (.int .i64 x):=by have:=hc 0 (by simp[dZ]);simpa[dZ,En.cs] using this
  obtain⟨hne,hgB⟩:=h3 g o none (by simp) rfl
  have HPI:=Hd (fun W=>wL x n W (h4 x (by simp)) (by omega))
  obtain⟨hb0,hb1⟩:=iP x n (by omega)
  obtain⟨k,hk⟩:=Int.eq_ofNat_of_zero_le hb0
  rw[hk] at HPI hb1
  have hle:r.length+1≤c:=h2.le
  have hs:=fun W=>aC3 g o r.length c hle W
  obtain⟨q,hq⟩:∃q,q=if c=1 then o else o+1:=⟨_,rfl⟩
  rw[←hq] at hs
  have hd:=h2.drop 1 (by simp) (some ⟨g,q,none⟩) (by rw[hq];by_cases h:c=1 <;> simp[h,dZ])
  have HD:Hid (dZ.At w (some ⟨g,q,none⟩) (c-1) r):=Hd (by simpa using hd)
  have H1:=Hd h1
  have H4:Hid (∀y∈r,I64 y):=Hd (fun y hy=>h4 y (by simp[hy]))
  have HNE:Hid (g≠sb∧g<B):=Hd ⟨hne,hgB⟩
  have HKN:Hid (k<n):=Hd (by omega)
  have c0':w.cell? ⟨sb,0,none⟩=some (.slice (some ⟨g,o,none⟩) (r.length+1) c):=c0
  clear h1 h2 h3 h4 hc hd hq c0 HS hb0 hk h5 h6 hgB hb1
  go_enter func117,ntmps117
  go_wp2_with (go_at_call 207;go_must (refine(HPI.out _).mono ?_;rintro e w' ⟨rfl,rfl⟩))
  go_ret
  refine⟨k,rfl,HKN.out,⟨⟨r,_,_,aE w sb 0 _ 130 _ H1.out,jY HD.out (aG _ _ _ _ HNE.out.1),fun b o' f _ e=>by cases e;exact HNE.out,H4.out⟩,H5.out,by simpa[World.setCell] using H6.out⟩,(Fr.refl _ _).set (.inl (by simp)) _⟩
abbrev offV (x:aW):Value:=.agg #[.string x.s,.int .i64 x.p]
theorem aIa (A:Option Addr) (c n:Nat) (xs:List aW) (hn:xs.length=n) (so:aW→Bool) (f:Nat) (K:Array Value) (w:World) (e2:Ent f) (h:dF.At w A c xs)
 (hm:∀x W,Below w.heap.size w W→Calls prog f (#[offV x]++K) W (Ret (.bool (so x)) W)):
 Calls prog 362 #[.slice A n c,.func (.func f) #[] K] w (Ret (.int .i64 (fI so xs)) w):=by
 have H:=Hd h
 have hle:n≤c:=by rw[←hn];exact h.le
 have hmax:=h.max
 have HN:=Hd hn
 have HM:=Hd hm
 have he2:∀args W,(callFunc f args).run prog W=.ok (.enter f args) W:=e2
 clear h hn hm e2
 go_enter func362,ntmps362
 go_wp2
 go_loopw [8] (fun iv wr=>∃k:Nat,k≤n∧iv=.int .i64 k∧Hid (∀j y,j<k→xs[j]?=some y→so y=false)∧Hid (Below w.heap.size w wr)) (fun iv _=>n-(intOf iv).toNat)
 case atStart=>exact⟨0,Nat.zero_le _,rfl,(fun j y hj=>absurd hj (Nat.not_lt_zero _)),bR⟩
 case round=>
  obtain⟨k,hk,rfl,HB,HL⟩:=hrel
  by_cases hlt:k<n
  ·have hx:xs[k]?=some (xs[k]'(by have:=HN.out;omega)):=gE _
   obtain⟨b,off,rfl,hbl,c0,c1⟩:=lG (H.out.below HL.out) k _ hx
   generalize xs[k]'(by have:=HN.out;omega)=x at c0 c1 hx
   have HX:=Hd hx
   clear hx
   have HM2:=Hd (HM.out x wr HL.out)
   cases hb:so x with
   |false=>
    rw[hb] at HM2
    have HN2:=Hd hb
    clear hb
    go_wp2_with fail
    refine HM2.out.mono ?_
    rintro e w2 ⟨rfl,hbel⟩
    have HB2:=Hd hbel
    clear hbel
    go_wp2_with fail
    go_roundw
    case rel=>exact⟨k+1,by omega,by go_num,Hd (mJ HX.out HN2.out HB.out),aD HL.out HB2.out⟩
    case measure=>simp[intOf];omega
   |true=>
    rw[hb] at HM2
    have HE:=Hd (pM HX.out hb HB.out)
    clear hb
    go_wp2_with fail
    refine HM2.out.mono ?_
    rintro e w2 ⟨rfl,hbel⟩
    have HB2:=Hd hbel
    clear hbel
    go_wp2_with fail
    go_ret
    exact⟨kD HE.out.symm,aD HL.out HB2.out⟩
  ·obtain rfl:k=n:=by omega
   have HE:=Hd (jW (p:=so) (xs:=xs) (fun j y hj hy=>HB.out j y (by have:=HN.out;omega) hy))
   go_wp2
   go_ret
   exact⟨kD HE.out.symm,HL.out⟩
def soF (s:ByteArray) (x:aW):Bool:=eqS x.s s
theorem aP8:Ent 363:=enters_of func363 (by kernel_rfl) rfl
theorem aEg (x:aW) (s:ByteArray) (B:Nat) (w:World) (h:w.cell? ⟨B,0,none⟩=some (.string s)):Calls prog 363 #[offV x,.pointer (some ⟨B,0,none⟩)] w (Ret (.bool (soF s x)) w):=by
 obtain⟨xs,xn⟩:=x
 have hlt:=bL w _ h
 dsimp only at hlt
 have hne:B≠w.heap.size:=by omega
 show Calls prog 363 #[.agg #[.string xs,.int .i64 xn],_] w (Ret (.bool (xs.toList==s.toList)) w)
 go_enter func363,ntmps363
 go_wp2
 go_ret
 exact⟨rfl,aB bR _⟩
def gK (xs:List Int) (i:Nat):Int×Bool:=match xs[i]? with
 |some p=>(p,true)
 |none=>(0,false)
theorem aGr (u:Value) (PA:Option Addr) (pc m:Nat) (xs:List Int) (hm:xs.length=m) (i:Nat) (hi:i<9) (w:World) (h:dZ.At w PA pc xs):Calls prog 334 #[.agg #[u,.slice PA m pc],.int .i64 (i:Int)] w (Ret (.tuple #[.int .i64 (gK xs i).1,.bool (gK xs i).2]) w):=by
 obtain⟨xv,hv⟩:∃xv,xs[i]?=xv:=⟨_,rfl⟩
 cases xv with
 |none=>
  have e:gK xs i=(0,false):=by unfold gK;rw[hv]
  rw[e]
  have z1:(m:Int)≤(i:Int):=by
   have:=List.getElem?_eq_none_iff.1 hv
   omega
  clear hv e h hm hi
  go_enter func334,ntmps334
  go_wp2
  go_ret2
  exact⟨rfl,blw⟩
 |some p=>
  have e:gK xs i=(p,true):=by unfold gK;rw[hv]
  rw[e]
  have hlt:i<m:=by
   have:=(List.getElem?_eq_some_iff.1 hv).1
   omega
  obtain⟨b,off,rfl,hbl,hc⟩:=h.get i p hv
  have c0:w.cell? ⟨b,off+i,none⟩=some (.int .i64 p):=by
   have:=hc 0 (by decide)
   simpa[dZ] using this
  have z1:¬(m:Int)≤(i:Int):=by omega
  have z2:(i:Int)<(m:Int):=by omega
  have z3:(0:Int)≤(i:Int):=by omega
  clear hv e h hm hi hc hlt
  go_enter func334,ntmps334
  go_wp2
  go_ret2
  exact⟨rfl,blw⟩
def jL (L:List aW) (s:ByteArray):Int×Bool:=match L.find? (soF s) with
 |some o=>(o.p,true)
 |none=>(0,false)
theorem aNa {α:Type} (p:α→Bool) (xs:List α):(fI p xs=-1∧xs.find? p=none)∨∃(k:Nat) (x:α),fI p xs=k∧xs[k]?=some x∧xs.find? p=some x:=by
 by_cases h:fI p xs=-1
 ·exact .inl ⟨h,List.find?_eq_none.2 (fun x hx=>by rw[aP4 h x hx];simp)⟩
 ·obtain⟨k,x,h1,h2,h3⟩:=sI h
  obtain⟨y,hy1,hy2,hy3⟩:=aIr h1
  rw[hy1] at h2
  cases h2
  refine .inr ⟨k,x,h1,hy1,?_⟩
  rw[List.find?_eq_some_iff_getElem]
  exact⟨h3,k,(List.getElem?_eq_some_iff.1 hy1).1,(List.getElem?_eq_some_iff.1 hy1).2,fun j hj=>by
   rw[hy3 j _ hj (gE _)];rfl⟩
theorem aIh (L:List aW) (A:Option Addr) (c n:Nat) (hn:L.length=n) (u:Value) (s:ByteArray) (w:World) (h:dF.At w A c L):Calls prog 335 #[.agg #[.slice A n c,u],.string s] w (Ret (.tuple #[.int .i64 (jL L s).1,.bool (jL L s).2]) w):=by
 have HI:Hid (∀W B,Below w.heap.size w W→W.cell? ⟨B,0,none⟩=some (.string s)→Calls prog 362 #[.slice A n c,.func (.func 363) #[] #[.pointer (some ⟨B,0,none⟩)]] W (Ret (.int .i64 (fI (soF s) L)) W)):=Hd (fun W B hW hc=>aIa A c n L hn (soF s) 363 _ W aP8 (h.below hW) (fun x W2 hb=>aEg x s B W2 ((hb.cell (p:=⟨B,0,none⟩) (bL W _ hc)).trans hc)))
 have hmf:∀(fn:Fn) (first cap:Array Value) (w:World),(Instr.makeFunc fn first cap).run prog w=.ok (.func fn first cap) w:=fun _ _ _ _=>rfl
 rcases aNa (soF s) L with⟨h1,h2⟩|⟨k,x,h1,h2,h3⟩
 ·have e:jL L s=(0,false):=by unfold jL;rw[h2]
  rw[e]
  rw[h1] at HI
  clear h1 h2 e h hn
  go_enter func335,ntmps335
  go_wp2_with (go_at_call 362;go_must (refine rC w (HI.out _ _ blw (by go_simp)) ?_;intro W1 hb HB1;(obtain⟨⟨kc1_0_0,kc1_0_1⟩,kl1_0,kf1_0⟩:=kb2 hb (w.heap.size) (.slice A n c) u);clear hb))
  go_ret2
  exact⟨rfl,HB1.out⟩
 ·have e:jL L s=(x.p,true):=by unfold jL;rw[h3]
  rw[e]
  rw[h1] at HI
  have hlt:k<n:=by
   have:=(List.getElem?_eq_some_iff.1 h2).1
   omega
  have H:=Hd h
  have HX:=Hd h2
  have z1:¬((k:Int)<0):=by omega
  have z2:(k:Int)<(n:Int):=by omega
  have z3:(0:Int)≤(k:Int):=by omega
  obtain⟨b,off,rfl,_⟩:=lG h k x h2
  clear h1 h2 h3 e h hn hlt
  go_enter func335,ntmps335
  go_wp2_with (go_at_call 362;go_must (refine rC w (HI.out _ _ blw (by go_simp)) ?_;intro W1 hb HB1;obtain⟨b2,o2,e2,hbl,c0,c1⟩:=lG (H.out.below HB1.out) k x HX.out;cases e2;(obtain⟨⟨kc2_0_0,kc2_0_1⟩,kl2_0,kf2_0⟩:=kb2 hb (w.heap.size) (.slice (some ⟨b,off,none⟩) n c) u);clear hb))
  go_ret2
  exact⟨rfl,HB1.out⟩
def cC (k n:Int) (s:ByteArray) (L:List aW):Int×Bool:=
 if k=1 then gK (eJ (bJ L)) 0 else if k=2 then gK (eJ (bJ L)) 1 else if k=3 then jL L s else(n,true)
theorem aEy (k:Int) (hk:k=1∨k=2∨k=3∨k=4) (n:Int) (s:ByteArray) (L:List aW) (A PA:Option Addr) (c pc m:Nat) (hL:L.length=m) (w:World) (h:dF.At w A c L) (hp:dZ.At w PA pc (eJ (bJ L))):
 Calls prog 319 #[.agg #[.slice A m c,.slice PA m pc],.agg #[.int .i64 k,.int .i64 n,.string s,.slice none 0 0]] w (Ret (.tuple #[.int .i64 (cC k n s L).1,.bool (cC k n s L).2]) w):=by
 have hm:(eJ (bJ L)).length=m:=by rw[oW];unfold bJ;rw[List.length_map,hL]
 have HR:Hid (∀(i:Nat) W,i<9→Below w.heap.size w W→Calls prog 334 #[.agg #[.slice A m c,.slice PA m pc],.int .i64 (i:Int)] W (Ret (.tuple #[.int .i64 (gK (eJ (bJ L)) i).1,.bool (gK (eJ (bJ L)) i).2]) W)):=Hd (fun i W hi hW=>aGr _ PA pc m _ hm i hi W (hp.below hW))
 have HF:Hid (∀W,Below w.heap.size w W→Calls prog 335 #[.agg #[.slice A m c,.slice PA m pc],.string s] W (Ret (.tuple #[.int .i64 (jL L s).1,.bool (jL L s).2]) W)):=Hd (fun W hW=>aIh L A c m hL _ s W (h.below hW))
 clear h hp hL hm
 rcases hk with rfl|rfl|rfl|rfl
 ·have e:cC 1 n s L=gK (eJ (bJ L)) 0:=rfl
  rw[e]
  have HR0:Hid (∀W,Below w.heap.size w W→Calls prog 334 #[.agg #[.slice A m c,.slice PA m pc],.int .i64 0] W (Ret (.tuple #[.int .i64 (gK (eJ (bJ L)) 0).1,.bool (gK (eJ (bJ L)) 0).2]) W)):=Hd (fun W hW=>HR.out 0 W (by decide) hW)
  generalize gK (eJ (bJ L)) 0=r at HR0 ⊢
  clear HR HF e
  go_enter func319,ntmps319
  go_wp2_with (go_at_call 334;go_must (refine rB w (HR0.out _ blw) ?_;intro W1 HB1))
  go_ret2
  exact⟨rfl,HB1.out⟩
 ·have e:cC 2 n s L=gK (eJ (bJ L)) 1:=rfl
  rw[e]
  have HR0:Hid (∀W,Below w.heap.size w W→Calls prog 334 #[.agg #[.slice A m c,.slice PA m pc],.int .i64 1] W (Ret (.tuple #[.int .i64 (gK (eJ (bJ L)) 1).1,.bool (gK (eJ (bJ L)) 1).2]) W)):=Hd (fun W hW=>HR.out 1 W (by decide) hW)
  generalize gK (eJ (bJ L)) 1=r at HR0 ⊢
  clear HR HF e
  go_enter func319,ntmps319
  go_wp2_with (go_at_call 334;go_must (refine rB w (HR0.out _ blw) ?_;intro W1 HB1))
  go_ret2
  exact⟨rfl,HB1.out⟩
 ·have e:cC 3 n s L=jL L s:=rfl
  rw[e]
  generalize jL L s=r at HF ⊢
  clear HR e
  go_enter func319,ntmps319
  go_wp2_with (go_at_call 335;go_must (refine rB w (HF.out _ blw) ?_;intro W1 HB1))
  go_ret2
  exact⟨rfl,HB1.out⟩
 ·have e:cC 4 n s L=(n,true):=rfl
  rw[e]
  clear HR HF e
  go_enter func319,ntmps319
  go_wp2_with fail
  go_ret2
  exact⟨rfl,blw⟩
def qI (k:Nat):Nat:=if k=5∨k=6 then 1 else if k=7∨k=8∨k=9∨k=12 then 2 else if k=10 then 3 else 0
theorem pC (k:Nat) (h:1≤k∧k≤12) (w:World):Calls prog 118 #[.int .i64 (k:Int)] w fun e w'=>e=.returned (.int .i64 (qI k:Nat))∧w=w':=by
 obtain⟨h1,h2⟩:=h
 rcases k with _|_|_|_|_|_|_|_|_|_|_|_|_|k
 ·omega
 all_goals first
  |omega
  |(go_enter func118,ntmps118
    go_wp2
    go_ret
    exact⟨rfl,rfl⟩)
theorem aP7 (S:Nat→Prop) (W:World) (k n:Int) (s:ByteArray):bB S W (.node k n s []) ⟨k,n,s,none,0,0⟩:=bB.mk k n s [] none 0 [] rfl En.At.none_ (fun h=>by cases h) (fun i x v h=>by cases h)
def eV (sb B d:Nat) (cond:Bool) (w:World) (e:Ending) (w':World):Prop:=∃(x:Ex) (v:EV),e=.returned v.v∧bB (fun b=>w.heap.size≤b) w' x v∧Gen d cond x∧aQ sb B w w'
def HExp (d:Nat):Prop:=∀(cond:Bool) (sb B:Nat) (w:World),Src sb B w→Calls prog 56 #[.pointer (some ⟨sb,0,none⟩),.int .i64 (d:Int),.bool cond] w (eV sb B d cond w)
theorem tP {sb B d:Nat} {cond:Bool} {w W:World} {k n:Int} {s:ByteArray} (hd:aQ sb B w W) (hB:B≤w.heap.size) (hg:Gen d cond (.node k n s [])) (e:Ending) (he:e=.returned (.agg #[.int .i64 k,.int .i64 n,.string s,.slice none 0 0])) (b:Nat) (hb:w.heap.size≤b) (v0 v1 v2 v3:Value):
 eV sb B d cond w e ((((W.setCell ⟨b,0,none⟩ v0).setCell ⟨b,1,none⟩ v1).setCell ⟨b,2,none⟩ v2).setCell ⟨b,3,none⟩ v3):=
 ⟨_,⟨k,n,s,none,0,0⟩,he,aP7 _ _ _ _ _,hg,(((hd.set hB (p:=⟨b,0,none⟩) hb _).set hB (p:=⟨b,1,none⟩) hb _).set hB (p:=⟨b,2,none⟩) hb _).set hB (p:=⟨b,3,none⟩) hb _⟩
theorem aEv (sb B:Nat) (w:World) (h:Src sb B w):Calls prog 56 #[.pointer (some ⟨sb,0,none⟩),.int .i64 1,.bool true] w (eV sb B 1 true w):=by
 have HN:Hid (∀W,Src sb B W→Calls prog 117 #[.pointer (some ⟨sb,0,none⟩),.int .i64 7] W fun e w'=>∃k:Nat,e=.returned (.int .i64 (k:Int))∧k<7∧aQ sb B W w'):=Hd (fun W hW=>fG sb B 7 (by decide) W hW)
 have HS:=Hd h
 have HB:=Hd h.le
 have HNE:Hid (w.heap.size≠sb):=Hd (by have:=h.lt;have:=h.le;omega)
 clear h
 go_enter func56,ntmps56
 go_wp2_with (first
  |(go_at_call 117;go_must (refine(HN.out _ (HS.out.below blw)).mono ?_;rintro e W1 ⟨k,rfl,hk,hd⟩;have hr:=hd.row (b:=w.heap.size) (aN w _) HNE.out;have q0:=aA hr 0;have q1:=aA hr 1;have q2:=aA hr 2;have q3:=aA hr 3;have f0:∀o,W1.frozen? ⟨w.heap.size,o,none⟩=false:=fun o=>fH hr o;have hl:=(gLt hr);have HK:=Hd hk;have HD:Hid (aQ sb B w W1):=Hd (((aQ.refl HS.out).alloc _).trans hd);clear hr hd hk)))
 refine bodyPost_ret (v:=.agg #[.int .i64 11,.int .i64 (k:Int),.string ⟨#[]⟩,.slice none 0 0]) (by simp[results,results56,go_sem, *]) rfl (tP HD.out HB.out (Gen.more 0 k HK.out) _ rfl w.heap.size nR _ _ _ _)
theorem aAm (p q r:Addr) (w:World):
 CallsD prog 317 #[.pointer (some p),.pointer (some q),.pointer (some r)] .returning w fun e u' w'=>e=.returned (.tuple #[])∧u'=.returning∧Below w.heap.size w w':=by
 have ta:∀W,(Instr.typeAssert .nilIface 20 389 true).run prog W=.ok (.tuple #[.agg #[.int .i64 0],.bool false]) W:=fun W=>by kernel_rfl
 refine callsD_of_wpS func317 rfl fun c₀ cs hu=>?_
 apply wpS_seq
 apply wpS_region
 simp[wpOpsS,go_sem,recoverD,hu,ntmps317,Exit.thenS,ta]
 apply wpS_seq
 apply wpS_region
 simp[wpOpsS,go_sem,Exit.thenS]
 refine wpS_cond (t:=false) (by simp[Act.eval,Array.replicate]) ?_
 simp only[Bool.false_eq_true,if_false]
 refine wpS_of_wp (wp_skip ?_)
 cases c₀
 simp_all[bodyPostS,results,results317]
 exact aB bR _
theorem aQq (u:Nat) (h:u<18446744073709551616):(Lib.decDigits u).length≤20:=by rw[Lib.decDigits_length];exact Lib.nDigits_le20 u h
def tA (k n:Int) (s:ByteArray):Prop:=Gen 5 false (.node k n s [])∧(k=1∨k=2∨k=3∨k=4)∧(aM (.node k n s [])).length≤2000
theorem aPt:tA 1 0 ⟨#[]⟩:=⟨.low 4,.inl rfl,by decide +kernel⟩
theorem aPs:tA 2 0 ⟨#[]⟩:=⟨.sec 4,.inr (.inl rfl),by decide +kernel⟩
theorem aPr (k:Nat) (h:k<60):tA 3 0 (aK k):=⟨.frm 4 k h,.inr (.inr (.inl rfl)),by
 have:=mQ (f:=fun k=>decide ((aM (.node 3 0 (aK k) [])).length≤2000)) (n:=60) (a:=0) (by decide +kernel) k (Nat.zero_le _) (by omega)
 exact of_decide_eq_true this⟩
theorem aPq (n:Nat) (h:n<3000):tA 4 n ⟨#[]⟩:=⟨.fix 4 n h,.inr (.inr (.inr rfl)),by
 rw[qO,iI n (by omega),eE]
 have:=aQq (n / 100) (by omega)
 rw[lA]
 have:(jQ (n % 100)).length=3:=rfl
 omega⟩
theorem aEx (k n:Int) (s:ByteArray) (hk:tA k n s) (L:List aW) (hL:iY L) (A:Option Addr) (c m:Nat) (hm:L.length=m) (w:World) (G:Gl w) (h:dF.At w A c L):
 Calls prog 284 #[.agg #[.int .i64 k,.int .i64 n,.string s,.slice none 0 0],.slice A m c] w (Ret (.tuple #[.int .i64 (cC k n s L).1,.bool (cC k n s L).2,.int .i64 0]) w):=by
 have hmf:∀(fn:Fn) (first cap:Array Value) (w:World),(Instr.makeFunc fn first cap).run prog w=.ok (.func fn first cap) w:=fun _ _ _ _=>rfl
 have HRO:Hid (∀W,Below w.heap.size w W→Calls prog 98 #[.slice A m c] W (Ret (.bool true) W)):=Hd (fun W hW=>tK L hL A c m hm W (h.below hW))
 have HRX:Hid (∀W,Below w.heap.size w W→Calls prog 44 #[.agg #[.int .i64 k,.int .i64 n,.string s,.slice none 0 0]] W (Ret (.bool true) W)):=Hd (fun W hW=>uO hk.1 hk.2.2 (fun _=>False) ⟨k,n,s,none,0,0⟩ W (G.below hW) (aB1 _ W k n s))
 have HOF:Hid (∀W,Below w.heap.size w W→Calls prog 318 #[.slice A m c] W fun e w'=>∃PA pc,e=.returned (.agg #[.slice A m c,.slice PA m pc])∧dZ.Own 3 w' W.heap.size PA pc (eJ (bJ L))∧Below W.heap.size W w'):=Hd (fun W hW=>aPa L hL.len A c m hm W (h.below hW))
 have HEV:Hid (∀W PA pc,Below w.heap.size w W→dZ.At W PA pc (eJ (bJ L))→Calls prog 319 #[.agg #[.slice A m c,.slice PA m pc],.agg #[.int .i64 k,.int .i64 n,.string s,.slice none 0 0]] W (Ret (.tuple #[.int .i64 (cC k n s L).1,.bool (cC k n s L).2]) W)):=Hd (fun W PA pc hW hp=>aEy k hk.2.1 n s L A PA c pc m hm W (h.below hW) hp)
 generalize cC k n s L=r at HEV ⊢
 obtain⟨r1,r2⟩:=r
 clear hk hL hm h G
 go_enter_defers func284,ntmps284
 go_wp2_with (first
  |(go_at_call 98;go_must (refine rC w (HRO.out _ blw) ?_;intro W1 hb HB1;(obtain⟨⟨kc1_0_0,kc1_0_1,kc1_0_2,kc1_0_3⟩,kl1_0,kf1_0⟩:=kb4 hb (w.heap.size) (.int .i64 k) (.int .i64 n) (.string s) (.slice none 0 0);obtain⟨kc1_1_0,kl1_1,kf1_1⟩:=kz1 hb (w.heap.size+1) (.int .i64 0);obtain⟨kc1_2_0,kl1_2,kf1_2⟩:=kz1 hb (w.heap.size+1+1) (.bool false);obtain⟨kc1_3_0,kl1_3,kf1_3⟩:=kz1 hb (w.heap.size+1+1+1) (.int .i64 0));clear hb))
  |(go_at_call 44;go_must (refine rC w (HRX.out _ blw) ?_;intro W2 hb HB2;(obtain⟨⟨kc2_0_0,kc2_0_1,kc2_0_2,kc2_0_3⟩,kl2_0,kf2_0⟩:=kb4 hb (w.heap.size) (.int .i64 k) (.int .i64 n) (.string s) (.slice none 0 0);obtain⟨kc2_1_0,kl2_1,kf2_1⟩:=kz1 hb (w.heap.size+1) (.int .i64 0);obtain⟨kc2_2_0,kl2_2,kf2_2⟩:=kz1 hb (w.heap.size+1+1) (.bool false);obtain⟨kc2_3_0,kl2_3,kf2_3⟩:=kz1 hb (w.heap.size+1+1+1) (.int .i64 0));clear hb)))
 refine wp_region_noPanic ?_
 go_region_with (first
  |(go_at_call 318;refine(HOF.out _ blw).mono ?_;rintro e W3 ⟨PA,pc,rfl,ho,hb⟩;have HB3:=bst w hb;have HO3:=Hd ho;(obtain⟨⟨kc3_0_0,kc3_0_1,kc3_0_2,kc3_0_3⟩,kl3_0,kf3_0⟩:=kb4 hb (w.heap.size) (.int .i64 k) (.int .i64 n) (.string s) (.slice none 0 0);obtain⟨kc3_1_0,kl3_1,kf3_1⟩:=kz1 hb (w.heap.size+1) (.int .i64 0);obtain⟨kc3_2_0,kl3_2,kf3_2⟩:=kz1 hb (w.heap.size+1+1) (.bool false);obtain⟨kc3_3_0,kl3_3,kf3_3⟩:=kz1 hb (w.heap.size+1+1+1) (.int .i64 0));clear hb ho)
  |(go_at_call 319;refine rC w (HEV.out _ PA pc blw (by first|exact HO3.out.at_|exact(HO3.out.drewN _).at_)) ?_;intro W4 hb HB4;(obtain⟨kc4_0_0,kl4_0,kf4_0⟩:=kz1 hb (w.heap.size+1) (.int .i64 0);obtain⟨kc4_1_0,kl4_1,kf4_1⟩:=kz1 hb (w.heap.size+1+1) (.bool false);obtain⟨kc4_2_0,kl4_2,kf4_2⟩:=kz1 hb (w.heap.size+1+1+1) (.int .i64 0));clear hb))
 all_goals refine NoPanic.normal ?_
 all_goals go_wp2_with fail
 all_goals refine wp_region_noPanic ?_
 all_goals go_region
 all_goals refine NoPanic.normal ?_
 all_goals go_wp2_with fail
 all_goals refine leaves_cons (f:=317) (args:=#[.pointer (some ⟨w.heap.size+1,0,none⟩),.pointer (some ⟨w.heap.size+1+1,0,none⟩),.pointer (some ⟨w.heap.size+1+1+1,0,none⟩)]) (by simp) (by simp[go_sem]) ?_
 all_goals refine(aAm _ _ _ _).mono ?_
 all_goals rintro e u' w2 ⟨rfl,rfl,hb⟩
 all_goals have d0:w2.cell? ⟨w.heap.size+1,0,none⟩=some (.int .i64 r1):=aC hb (by go_simp)
 all_goals obtain⟨q1,h1⟩:=cell?_setCell_some (p:=⟨w.heap.size+1,0,none⟩) (x:=.int .i64 r1) (show W4.cell? ⟨w.heap.size+1+1,0,none⟩=some (.bool false) from by assumption)
 all_goals obtain⟨q2,h2⟩:=cell?_setCell_some (p:=⟨w.heap.size+1+1,0,none⟩) (x:=.bool r2) h1
 all_goals obtain⟨q3,h3⟩:=cell?_setCell_some (p:=⟨w.heap.size+1,0,none⟩) (x:=.int .i64 r1) h2
 all_goals have d1:w2.cell? ⟨w.heap.size+1+1,0,none⟩=some (.bool r2):=aC hb (by go_simp)
 all_goals have d2:w2.cell? ⟨w.heap.size+1+1+1,0,none⟩=some (.int .i64 0):=aC hb (by go_simp)
 all_goals simp[Leaves,settle,results,results284,go_sem,d0,d1,d2]
 all_goals refine⟨rfl,aD ?_ hb⟩
 all_goals (repeat(first|exact HB4.out|refine aF ?_ (by simp;try omega) _|refine aI ?_|refine aL ?_ _))
abbrev z51:Array Value:=#[.int .i64 0,.int .i64 0,.string ⟨#[]⟩,.slice none 0 0]
abbrev c51 (v:EV):Array Value:=#[.int .i64 v.k,.int .i64 v.n,.string v.s,.slice v.A v.m v.c]
theorem aRc (W:World) (a b:EV):dX.At (W.alloc (.cells #[.int .i64 a.k,.int .i64 a.n,.string a.s,.slice a.A a.m a.c,.int .i64 b.k,.int .i64 b.n,.string b.s,.slice b.A b.m b.c] 51)) (some ⟨W.heap.size,0,none⟩) 2 [a,b]:=
 (En.Own.lit dX W 0 51 _ [a,b] (Nat.zero_le _) (by simp) (by simp[En.cs,dX])).at_
theorem aFp {sb B:Nat} {w W W1 W2:World} {x y:Ex} {u v:EV} (hw:w.heap.size+1≤W.heap.size) (hsb:sb<w.heap.size) (hx:bB (fun b=>W.heap.size≤b) W1 x u) (h1:W.heap.size≤W1.heap.size) (hy:bB (fun b=>W1.heap.size≤b) W2 y v) (h2:aQ sb B W1 W2):
 bB (fun b=>w.heap.size<b) W2 x u∧bB (fun b=>w.heap.size<b) W2 y v:=
 ⟨((hx.fr h2.2 (fun b hb hs=>by simp at hb;omega)).mono (fun b hb _=>by omega)),hy.mono (fun b hb _=>by omega)⟩
theorem aHn {W3 W4:World} {r:Nat} {x y:Ex} {a b:EV} (k n:Int) (s:ByteArray) (hs:W4.heap.size=W3.heap.size) (hr:r<W3.heap.size) (hx:bB (fun q=>r<q) W4 x a) (hy:bB (fun q=>r<q) W4 y b):
 bB (fun q=>r≤q) (W4.alloc (.cells #[.int .i64 a.k,.int .i64 a.n,.string a.s,.slice a.A a.m a.c,.int .i64 b.k,.int .i64 b.n,.string b.s,.slice b.A b.m b.c] 51)) (.node k n s [x,y]) ⟨k,n,s,some ⟨W3.heap.size,0,none⟩,2,2⟩:=by
 have kx:=(hx.onBelow (aB bR (.cells #[.int .i64 a.k,.int .i64 a.n,.string a.s,.slice a.A a.m a.c,.int .i64 b.k,.int .i64 b.n,.string b.s,.slice b.A b.m b.c] 51))).mono (S':=fun q=>r≤q) (fun q hq _=>Nat.le_of_lt hq)
 have ky:=(hy.onBelow (aB bR (.cells #[.int .i64 a.k,.int .i64 a.n,.string a.s,.slice a.A a.m a.c,.int .i64 b.k,.int .i64 b.n,.string b.s,.slice b.A b.m b.c] 51))).mono (S':=fun q=>r≤q) (fun q hq _=>Nat.le_of_lt hq)
 refine bB.mk k n s [x,y] (some ⟨W3.heap.size,0,none⟩) 2 [a,b] rfl (hs▸aRc W4 a b) (fun _ q o f e=>by cases e;exact Nat.le_of_lt hr) (fun i z v h1 h2=>?_)
 rcases i with _|_|i
 ·cases h1;cases h2;exact kx
 ·cases h1;cases h2;exact ky
 ·simp at h1
theorem vB {W:World} {r:Nat} {x:Ex} {v:EV} (h:bB (fun q=>r<q) W x v) (u0 u1 u2 u3:Value):bB (fun q=>r<q) ((((W.setCell ⟨r,0,none⟩ u0).setCell ⟨r,1,none⟩ u1).setCell ⟨r,2,none⟩ u2).setCell ⟨r,3,none⟩ u3) x v:=
 (((h.set (p:=⟨r,0,none⟩) (Nat.lt_irrefl _) _).set (p:=⟨r,1,none⟩) (Nat.lt_irrefl _) _).set (p:=⟨r,2,none⟩) (Nat.lt_irrefl _) _).set (p:=⟨r,3,none⟩) (Nat.lt_irrefl _) _
theorem aIz (d:Nat) (hd:1≤d) (D:Int) (hD:D=d+1) (hd9:d≤9) (IH:HExp d) (sb B:Nat) (w:World) (h:Src sb B w):Calls prog 56 #[.pointer (some ⟨sb,0,none⟩),.int .i64 D,.bool true] w (eV sb B (d+1) true w):=by
 have HN2:Hid (∀W,Src sb B W→Calls prog 117 #[.pointer (some ⟨sb,0,none⟩),.int .i64 2] W fun e w'=>∃k:Nat,e=.returned (.int .i64 (k:Int))∧k<2∧aQ sb B W w'):=Hd (fun W hW=>fG sb B 2 (by decide) W hW)
 have HN7:Hid (∀W,Src sb B W→Calls prog 117 #[.pointer (some ⟨sb,0,none⟩),.int .i64 7] W fun e w'=>∃k:Nat,e=.returned (.int .i64 (k:Int))∧k<7∧aQ sb B W w'):=Hd (fun W hW=>fG sb B 7 (by decide) W hW)
 have hz:wrap64 (D-1)=(d:Int):=by rw[Mem.w64 (by omega) (by omega)];omega
 have hlt:¬D<2:=by omega
 have HE:Hid (∀W,Src sb B W→Calls prog 56 #[.pointer (some ⟨sb,0,none⟩),.int .i64 (d:Int),.bool false] W (eV sb B d false W)):=Hd (fun W hW=>IH false sb B W hW)
 have HS:=Hd h
 have HB:=Hd h.le
 have HSB:Hid (sb<w.heap.size):=Hd (by have:=h.lt;have:=h.le;omega)
 have HNE:Hid (w.heap.size≠sb):=Hd (by have:=HSB.out;omega)
 clear h hD hd IH hd9
 go_enter func56,ntmps56
 go_wp2_with fail
 refine(HN2.out _ (HS.out.below blw)).mono ?_
 rintro e W1 ⟨k,rfl,hk,hd1⟩
 have hr:=hd1.row (b:=w.heap.size) (aN w _) HNE.out
 have HD:Hid (aQ sb B w W1):=Hd (((aQ.refl HS.out).alloc _).trans hd1)
 have HR:Hid (W1.heap[w.heap.size]?=some (.cells z51 51 (0,0))):=Hd hr
 clear hr hd1
 rcases k with _|_|k
 ·go_wp2_with (first
   |(go_at_call 117;go_must (refine(HN7.out _ HD.out.1).mono ?_;rintro e W2 ⟨k,rfl,hk2,hd2⟩;have hr:=hd2.row HR.out HNE.out;have q0:=aA hr 0;have q1:=aA hr 1;have q2:=aA hr 2;have q3:=aA hr 3;have f0:∀o,W2.frozen? ⟨w.heap.size,o,none⟩=false:=fun o=>fH hr o;have hl:=(gLt hr);have HK:=Hd hk2;have HD2:Hid (aQ sb B w W2):=Hd (HD.out.trans hd2);clear hr hd2 hk2)))
  exact bodyPost_ret (v:=.agg #[.int .i64 11,.int .i64 (k:Int),.string ⟨#[]⟩,.slice none 0 0]) (by simp[results,results56,go_sem, *]) rfl (tP HD2.out HB.out (Gen.more d k HK.out) _ rfl w.heap.size nR _ _ _ _)
 ·go_wp2_with fail
  refine(HE.out _ HD.out.1).mono ?_
  rintro e W2 ⟨x,⟨xk,xn,xs,xA,xm,xc⟩,rfl,hx,gx,hd2⟩
  have HX:=Hd hx
  have HGX:=Hd gx
  have HD2:Hid (aQ sb B W1 W2):=Hd hd2
  have HR2:Hid (W2.heap[w.heap.size]?=some (.cells z51 51 (0,0))):=Hd (hd2.row HR.out HNE.out)
  unfold EV.v
  clear hx gx hd2
  go_wp2_with fail
  refine(HE.out _ HD2.out.1).mono ?_
  rintro e W3 ⟨y,⟨yk,yn,ys,yA,ym,yc⟩,rfl,hy,gy,hd3⟩
  have hr:=hd3.row HR2.out HNE.out
  have q0:=aA hr 0
  have q1:=aA hr 1
  have q2:=aA hr 2
  have q3:=aA hr 3
  have f0:∀o,W3.frozen? ⟨w.heap.size,o,none⟩=false:=fun o=>fH hr o
  have hl:=(gLt hr)
  have h1w:w.heap.size+1≤W1.heap.size:=(gLt HR.out)
  have HXY:=Hd (aFp h1w HSB.out HX.out HD2.out.2.size hy hd3)
  have HGY:=Hd gy
  have HD3:Hid (aQ sb B w W3):=Hd ((HD.out.trans HD2.out).trans hd3)
  unfold EV.v
  clear hy gy hd3 hr h1w
  go_wp2_with fail
  refine bodyPost_ret (v:=.agg #[.int .i64 12,.int .i64 0,.string ⟨#[]⟩,.slice (some ⟨W3.heap.size,0,none⟩) 2 2]) (by simp[results,results56,go_sem, *]) rfl ⟨.node 12 0 ⟨#[]⟩ [x,y],⟨12,0,⟨#[]⟩,some ⟨W3.heap.size,0,none⟩,2,2⟩,rfl,?_,Gen.abv d x y HGX.out HGY.out,?_⟩
  ·exact aHn 12 0 ⟨#[]⟩ (a:=⟨xk,xn,xs,xA,xm,xc⟩) (b:=⟨yk,yn,ys,yA,ym,yc⟩) (by simp[World.setCell]) hl (vB HXY.out.1 _ _ _ _) (vB HXY.out.2 _ _ _ _)
  ·exact((((HD3.out.set HB.out (p:=⟨w.heap.size,0,none⟩) nR _).set HB.out (p:=⟨w.heap.size,1,none⟩) nR _).set HB.out (p:=⟨w.heap.size,2,none⟩) nR _).set HB.out (p:=⟨w.heap.size,3,none⟩) nR _).alloc _
 ·omega
end Go.Proofs.YtlibhkkckgkkkaaGreatDoor.Tf
