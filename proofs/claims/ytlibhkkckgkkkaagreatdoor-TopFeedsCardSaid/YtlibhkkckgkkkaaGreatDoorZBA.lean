/- Part of the proof of TopFeeds: LwH RunB LwD RunC RunD RunE. -/
import Derived.Test.YtlibhkkckgkkkaaGreatDoorZAH
import Derived.Test.YtlibhkkckgkkkaaGreatDoorZAV
import Derived.Test.YtlibhkkckgkkkaaGreatDoorZAX
import Derived.Test.YtlibhkkckgkkkaaGreatDoorZAY
import Derived.Test.YtlibhkkckgkkkaaGreatDoorZAZ
set_option maxHeartbeats 4000000
set_option maxRecDepth 100000
namespace Go.Proofs.YtlibhkkckgkkkaaGreatDoor.Tf
open Go.RowKit Go.Proofs.YtlibhkkckgkkkaaGreatDoor.Mem Go.Proofs.YtlibhkkckgkkkaaGreatDoor.Boo Go.Proofs.Tryz
theorem aDe (k:Nat) (h:1≤k∧k≤12) (w:World):Calls prog 205 #[.int .i64 (k:Int)] w fun e w'=>e=.returned (.int .i64 (aO k))∧w=w':=by
 obtain⟨h1,h2⟩:=h
 rcases k with _|_|_|_|_|_|_|_|_|_|_|_|_|k
 ·omega
 all_goals first
  |omega
  |(go_enter func205,ntmps205
    go_wp2
    go_ret
    exact⟨rfl,rfl⟩)
theorem pB (k:Nat) (h:1≤k∧k≤12) (w:World):Calls prog 114 #[.int .i64 (k:Int)] w fun e w'=>e=.returned (.bool (pY k))∧w=w':=by
 obtain⟨h1,h2⟩:=h
 rcases k with _|_|_|_|_|_|_|_|_|_|_|_|_|k
 ·omega
 all_goals first
  |omega
  |(go_enter func114,ntmps114
    go_wp2
    go_ret
    exact⟨rfl,rfl⟩)
theorem jE (k:Nat) (h:1≤k∧k≤12) (w:World):Calls prog 116 #[.int .i64 (k:Int)] w (Ret (.string (aY k)) w):=by
 obtain⟨h1,h2⟩:=h
 rcases k with _|_|_|_|_|_|_|_|_|_|_|_|_|k
 ·omega
 all_goals first
  |omega
  |(go_enter func116,ntmps116
    go_wp2
    go_ret
    exact⟨rfl,blw⟩)
theorem aQ1 (k:Nat) (h:1≤k∧k≤12):(qI k:Int)=cH k:=by
 obtain⟨h1,h2⟩:=h
 rcases k with _|_|_|_|_|_|_|_|_|_|_|_|_|k
 ·omega
 all_goals first
  |omega
  |rfl
theorem zJ {k:Int} (h:qD k=true):∃K:Nat,k=K∧1≤K∧K≤12:=by
 unfold qD at h
 simp at h
 exact⟨k.toNat,by omega,by omega,by omega⟩
structure MS where
 st:List (Int×Bool)
 at_:Int
 e:Int
abbrev kL (x:Int×Bool):Value:=.agg #[.int .i64 x.1,.bool x.2]
def dS:En (Int×Bool):=⟨fun x=>[.int .i64 x.1,.bool x.2],2,by omega,fun _=>rfl,fun x u hu=>by simp at hu;rcases hu with rfl|rfl <;> rfl⟩
theorem aMy:(prog.info? 106).map (fun i=>(i.zero,i.size,i.bytes))=some (some (.agg #[.int .i64 0,.bool false]),2,16):=by kernel_rfl
theorem En.cs_takeE {α:Type} (d:En α) (xs:List α) (k:Nat) (hk:k≤xs.length):d.cs (xs.take k)=(d.cs xs).take (k * d.sz):=by
 refine List.ext_getElem? fun i=>?_
 rw[List.getElem?_take]
 by_cases h:i<k * d.sz
 ·rw[if_pos h,d.cs_take xs k i h]
 ·rw[if_neg h,List.getElem?_eq_none]
  rw[d.cs_length,List.length_take,Nat.min_eq_left hk]
  omega
theorem rP {α:Type} {d:En α} {e:TypeId} {w:World} {base c:Nat} {A:Option Addr} {xs:List α} (h:d.Own e w base A c xs) (k:Nat) (hk:k≤xs.length):d.Own e w base A c (xs.take k):=by
 have hl:(xs.take k).length=k:=by rw[List.length_take,Nat.min_eq_left hk]
 refine⟨d.cs_length _,?_⟩
 rcases h.2 with⟨hv,h0⟩|⟨g,cap,cur,hv,hb,hg,hn,hm,hs,ht⟩
 ·left
  injection hv with h1 h2 h3
  subst h1
  subst h3
  rw[hl]
  exact⟨by rw[show k=0 by omega],by omega⟩
 ·right
  injection hv with h1 h2 h3
  subst h1
  subst h3
  refine⟨g,c,cur,rfl,hb,hg,by omega,hm,hs,?_⟩
  rw[hl,En.cs_takeE d xs k hk,←ht,List.take_take,Nat.min_eq_left (Nat.mul_le_mul_right _ hk)]
def MaB (b:Nat) (F:Value) (m:MS) (W:World):Prop:=∃A c,W.heap[b]?=some (.cells #[F,.slice A m.st.length c,.int .i64 m.at_,.int .i64 m.e] 202 (0,0))∧dS.Own 106 W b A c m.st
structure aJ (b:Nat) (w w':World):Prop where
 below:Below b w w'
 other:Lib.OthersKept 106 (some b) w w'
 size:w.heap.size≤w'.heap.size
theorem aJ.refl (b:Nat) (w:World):aJ b w w:=⟨bR,Lib.OthersKept.refl _ _ _,nR⟩
theorem aJ.trans {b:Nat} {w1 w2 w3:World} (h:aJ b w1 w2) (k:aJ b w2 w3):aJ b w1 w3:=⟨h.below.trans k.below,h.other.trans k.other,Nat.le_trans h.size k.size⟩
theorem aJ.alloc {b:Nat} {w w1:World} (h:aJ b w w1) (hb:b≤w1.heap.size) (o:Obj):aJ b w (w1.alloc o):=⟨h.below.alloc hb o,h.other.alloc o,by have:=h.size;simp;omega⟩
theorem aJ.drewN {b:Nat} {w w1:World} (h:aJ b w w1) (n:Nat):aJ b w (w1.drewN n):=⟨aL h.below n,h.other,h.size⟩
theorem aJ.block {b:Nat} {w w':World} (h:aJ b w w') {X:Nat} {cs:Array Value} {t:TypeId} {fz:Nat×Nat} (hX:w.heap[X]?=some (.cells cs t fz)) (hne:X≠b) (ht:t≠106):w'.heap[X]?=some (.cells cs t fz):=
 h.other X _ hX (by simpa using hne) (fun c f e=>by injection e with _ e _;exact ht e)
theorem aJ.map {b:Nat} {w w':World} (h:aJ b w w') {X:Nat} {es:Array MapEntry} {n:Nat} (hX:w.heap[X]?=some (.map es n)) (hne:X≠b):w'.heap[X]?=some (.map es n):=
 h.other X _ hX (by simpa using hne) (fun c f e=>by cases e)
theorem aJ.ofB {b:Nat} {w w2:World} (hb:b<w.heap.size) (k:Below w.heap.size w w2):aJ b w w2:=⟨aP k (Nat.le_of_lt hb),fun i _ hi _ _=>(k.block i (gLt hi)).trans hi,k.size⟩
theorem aF8 (W:World) (b j:Nat) (v:Value):Below b W (W.setCell ⟨b,j,none⟩ v):=aH (p:=⟨b,j,none⟩) (Below.refl b W) (Nat.le_refl b) v
section
variable {b:Nat} {F:Value} {m:MS} {W W':World}
theorem MaB.lt (h:MaB b F m W):b<W.heap.size:=by
 obtain⟨A,c,h1,_⟩:=h
 exact(gLt h1)
theorem MaB.below (h:MaB b F m W) (hb:Below W.heap.size W W'):MaB b F m W':=by
 have hlt:=h.lt
 obtain⟨A,c,h1,h2⟩:=h
 exact⟨A,c,(hb.block b hlt).trans h1,h2.below hb⟩
theorem MaB.drewN (h:MaB b F m W) (n:Nat):MaB b F m (W.drewN n):=h
theorem MaB.setE (h:MaB b F m W) (e:Int):MaB b F ⟨m.st,m.at_,e⟩ (W.setCell ⟨b,3,none⟩ (.int .i64 e))∧aJ b W (W.setCell ⟨b,3,none⟩ (.int .i64 e)):=by
 have hlt:=h.lt
 obtain⟨A,c,h1,h2⟩:=h
 refine⟨⟨A,c,aE W b 3 _ 202 _ h1,?_⟩,⟨?_,?_,?_⟩⟩
 ·exact h2.kept (row:=some b) ⟨rfl,rfl,rfl,by simp[World.setCell],fun k _ hk=>Below.heap_setCell _ _ _ _ (fun e=>hk (by simp[e]))⟩ (.inr (fS h2 h1 (by decide)))
 ·exact aF8 _ _ _ _
 ·exact(Lib.OthersKept.refl 106 (some b) W).setCell ⟨b,3,none⟩ rfl _
 ·simp[World.setCell]
theorem MaB.setAt (h:MaB b F m W) (n:Int):MaB b F ⟨m.st,n,m.e⟩ (W.setCell ⟨b,2,none⟩ (.int .i64 n))∧aJ b W (W.setCell ⟨b,2,none⟩ (.int .i64 n)):=by
 have hlt:=h.lt
 obtain⟨A,c,h1,h2⟩:=h
 refine⟨⟨A,c,aE W b 2 _ 202 _ h1,?_⟩,⟨?_,?_,?_⟩⟩
 ·exact h2.kept (row:=some b) ⟨rfl,rfl,rfl,by simp[World.setCell],fun k _ hk=>Below.heap_setCell _ _ _ _ (fun e=>hk (by simp[e]))⟩ (.inr (fS h2 h1 (by decide)))
 ·exact aF8 _ _ _ _
 ·exact(Lib.OthersKept.refl 106 (some b) W).setCell ⟨b,2,none⟩ rfl _
 ·simp[World.setCell]
theorem MaB.setS {A:Option Addr} {c:Nat} (h1:W.heap[b]?=some (.cells #[F,.slice A m.st.length c,.int .i64 m.at_,.int .i64 m.e] 202 (0,0))) (h2:dS.Own 106 W b A c m.st) (k:Nat) (hk:k≤m.st.length):MaB b F ⟨m.st.take k,m.at_,m.e⟩ (W.setCell ⟨b,1,none⟩ (.slice A k c))∧aJ b W (W.setCell ⟨b,1,none⟩ (.slice A k c)):=by
 have hlt:=(gLt h1)
 have hl:(m.st.take k).length=k:=by rw[List.length_take,Nat.min_eq_left hk]
 have h3:=rP h2 k hk
 refine⟨⟨A,c,(by rw[hl];exact aE W b 1 _ 202 _ h1),?_⟩,⟨?_,?_,?_⟩⟩
 ·exact h3.kept (row:=some b) ⟨rfl,rfl,rfl,by simp[World.setCell],fun k _ hk=>Below.heap_setCell _ _ _ _ (fun e=>hk (by simp[e]))⟩ (.inr (fS h3 h1 (by decide)))
 ·exact aF8 _ _ _ _
 ·exact(Lib.OthersKept.refl 106 (some b) W).setCell ⟨b,1,none⟩ rfl _
 ·simp[World.setCell]
theorem MaB.app {l':List (Int×Bool)} {w3:World} {A A':Option Addr} {c c':Nat} (hk:W.heap[b]?=some (.cells #[F,.slice A m.st.length c,.int .i64 m.at_,.int .i64 m.e] 202 (0,0))) (ho:dS.Own 106 W b A c m.st) (ho3:dS.Own 106 w3 b A' c' l') (hg:W.grownBy w3 (Value.slice A m.st.length c).ownBlock):
 MaB b F ⟨l',m.at_,m.e⟩ (w3.setCell ⟨b,1,none⟩ (.slice A' l'.length c'))∧aJ b W (w3.setCell ⟨b,1,none⟩ (.slice A' l'.length c')):=by
 have hlt:=(gLt hk)
 have hb3:w3.heap[b]?=some (.cells #[F,.slice A m.st.length c,.int .i64 m.at_,.int .i64 m.e] 202 (0,0)):=(hg.block b hlt (fun e=>fS ho hk (by decide) e.symm)).trans hk
 refine⟨⟨A',c',aE w3 b 1 _ 202 _ hb3,?_⟩,⟨?_,?_,?_⟩⟩
 ·exact ho3.kept (row:=some b) ⟨rfl,rfl,rfl,by simp[World.setCell],fun k _ hk=>Below.heap_setCell _ _ _ _ (fun e=>hk (by simp[e]))⟩ (.inr (fS ho3 hb3 (by decide)))
 ·exact aH ((Below.refl b W).grown hg (Nat.le_of_lt hlt) (fun r hr=>(ho.row r hr).1)) nR _
 ·exact((Lib.OthersKept.refl 106 (some b) W).grown hg (Lib.ownsRow_kind ho)).setCell ⟨b,1,none⟩ rfl _
 ·have:=hg.size
  simpa[World.setCell] using this
theorem MaB.app2 {n:Nat} {l':List (Int×Bool)} {w w3:World} {A A':Option Addr} {c c':Nat} (hB:Below w.heap.size w W) (hk:w.heap[b]?=some (.cells #[F,.slice A m.st.length c,.int .i64 m.at_,.int .i64 m.e] 202 (0,0))) (ho:dS.Own 106 w b A c m.st) (ho3:dS.Own 106 w3 b A' c' l') (hg:W.grownBy w3 (Value.slice A m.st.length c).ownBlock) (hn:l'.length=n):
 MaB b F ⟨l',m.at_,m.e⟩ (w3.setCell ⟨b,1,none⟩ (.slice A' n c'))∧aJ b w (w3.setCell ⟨b,1,none⟩ (.slice A' n c')):=by
 subst hn
 have hlt:=(gLt hk)
 obtain⟨h1,h2⟩:=MaB.app ((hB.block b hlt).trans hk) (ho.below hB) ho3 hg
 exact⟨h1,(aJ.ofB hlt hB).trans h2⟩
end
theorem aN9 {W:World} {g:Nat} {x:Int×Bool} (h0:W.cell? ⟨g,0,none⟩=some (.int .i64 x.1)) (h1:W.cell? ⟨g,1,none⟩=some (.bool x.2)):dS.At W (some ⟨g,0,none⟩) 1 [x]:=
 ⟨nR,by omega,(fun e=>by cases e),fun _=>⟨g,0,rfl,bL W _ h0,fun i hi=>by
   have hi3:i<2:=hi
   match i,hi3 with
   |0,_=>exact h0
   |1,_=>exact h1⟩⟩
def cX (x:Int×Bool) (m:MS):MS:=if 100≤m.st.length then⟨m.st,m.at_,100⟩ else⟨m.st++[x],m.at_,m.e⟩
theorem fY (b:Nat) (F:Value) (x:Int×Bool) (m:MS) (w:World) (h:MaB b F m w):
 Calls prog 241 #[.pointer (some ⟨b,0,none⟩),kL x] w fun e w'=>e=.returned (.tuple #[])∧MaB b F (cX x m) w'∧aJ b w w':=by
 obtain⟨i0,hi,iz,isz,iby⟩:=info_parts aMy
 have hlt:=h.lt
 have HM:=Hd h
 obtain⟨A,c,hk,ho⟩:=h
 obtain⟨xn,xs⟩:=x
 have c0:w.cell? ⟨b,1,none⟩=some (.slice A m.st.length c):=aA hk 1
 have c3:w.cell? ⟨b,3,none⟩=some (.int .i64 m.e):=aA hk 3
 have f0:w.frozen? ⟨b,1,none⟩=false:=by simp[World.frozen?,hk]
 have f3:w.frozen? ⟨b,3,none⟩=false:=by simp[World.frozen?,hk]
 have HO:=Hd ho
 have HK:=Hd hk
 have HNE:=Hd (fS ho hk (by decide))
 unfold kL
 clear hk ho
 by_cases hl:100≤m.st.length
 ·have HP:Hid (cX (xn,xs) m=⟨m.st,m.at_,100⟩):=Hd (if_pos hl)
  have z1:(100:Int)≤(m.st.length:Int):=by omega
  clear hl
  go_enter func241,ntmps241
  go_wp2_with fail
  refine bodyPost_ret (results_none rfl _ _ _) rfl ?_
  obtain⟨h1,h2⟩:=HM.out.setE 100
  exact⟨rfl,by rw[HP.out];exact h1.below (aB bR _),h2.alloc (Nat.le_of_lt h1.lt) _⟩
 ·have HP:Hid (cX (xn,xs) m=⟨m.st++[(xn,xs)],m.at_,m.e⟩):=Hd (if_neg hl)
  have HL:=Hd hl
  have z1:¬(100:Int)≤(m.st.length:Int):=by omega
  clear hl
  go_enter func241,ntmps241
  go_wp2_with fail
  go_region_law (first
   |(refine cO dS _ (by rfl) _ _ _ (by rfl) b 106 i0 _ 16 underlying102 hi iz isz iby rfl A c _ m.st (by rfl) rfl ?_ _ _ _ [(xn,xs)] (by rfl) rfl ?_ ?_ ?_ ?_ ?_;(refine HO.out.below ?_;exact blw);(refine aN9 ?_ ?_ <;> (go_simp;done));(have:=HL.out;simp;omega);(have:=HL.out;simp;omega);(simp;omega);(intro A3 c3 w3 hown3 hg hat;have hb3:=gO (w:=w) blw HK.out hg HNE.out;have d0:w3.cell? ⟨b,1,none⟩=some (.slice A m.st.length c):=aA hb3 1;have g0:w3.frozen? ⟨b,1,none⟩=false:=fH hb3 1;have HO3:=Hd hown3;have HG:=Hd hg;clear hown3 hat hg hb3)))
  all_goals go_wp2
  all_goals go_end0
  all_goals exact⟨rfl,by rw[HP.out];exact MaB.app2 blw HK.out HO.out HO3.out HG.out (by simp)⟩
def bC (k:Nat) (m:MS):MS:=if m.st.length<k then⟨m.st,m.at_,100⟩ else m
theorem cU (b:Nat) (F:Value) (k:Nat) (m:MS) (w:World) (h:MaB b F m w):
 Calls prog 239 #[.pointer (some ⟨b,0,none⟩),.int .i64 k] w fun e w'=>e=.returned (.bool ((bC k m).e==0))∧MaB b F (bC k m) w'∧aJ b w w':=by
 have HM:=Hd h
 obtain⟨A,c,hk,ho⟩:=h
 have c0:w.cell? ⟨b,1,none⟩=some (.slice A m.st.length c):=aA hk 1
 have c3:w.cell? ⟨b,3,none⟩=some (.int .i64 m.e):=aA hk 3
 have f3:w.frozen? ⟨b,3,none⟩=false:=by simp[World.frozen?,hk]
 clear hk ho
 by_cases hl:m.st.length<k
 ·have HP:Hid (bC k m=⟨m.st,m.at_,100⟩):=Hd (if_pos hl)
  have z1:(m.st.length:Int)<(k:Int):=by omega
  clear hl
  go_enter func239,ntmps239
  go_wp2_with fail
  go_ret
  obtain⟨h1,h2⟩:=HM.out.setE 100
  exact⟨by rw[HP.out];rfl,by rw[HP.out];exact h1,h2⟩
 ·have HP:Hid (bC k m=m):=Hd (if_neg hl)
  have z1:¬(m.st.length:Int)<(k:Int):=by omega
  clear hl
  go_enter func239,ntmps239
  go_wp2_with fail
  go_ret
  exact⟨by rw[HP.out];rfl,by rw[HP.out];exact HM.out,aJ.refl _ _⟩
end Go.Proofs.YtlibhkkckgkkkaaGreatDoor.Tf
namespace Go.Proofs.YtlibhkkckgkkkaaGreatDoor.Tf
open Go.RowKit Go.Proofs.YtlibhkkckgkkkaaGreatDoor.Mem Go.Proofs.YtlibhkkckgkkkaaGreatDoor.Boo
theorem Src.lowB {sb B:Nat} {W W':World} (h:Src sb B W) (k:Below B W W'):Src sb B W':=by
 obtain⟨⟨xs,A,c,h1,h2,h3,h4⟩,h5,h6⟩:=h
 exact⟨⟨xs,A,c,(k.block sb h5).trans h1,vK h2 (fun b o f h0 e=>k.block b (h3 b o f h0 e).2),h3,h4⟩,h5,Nat.le_trans h6 k.size⟩
theorem aQ.low {sb B:Nat} {w W W':World} (h:aQ sb B w W) (hB:B≤w.heap.size) (k:Below w.heap.size W W'):aQ sb B w W':=
 ⟨h.1.lowB (aP k hB),k.os.trans h.2.os,k.tape.trans h.2.tape,k.output.trans h.2.output,Nat.le_trans h.2.size k.size,fun q hq hO=>(k.block q hq).trans (h.2.block q hq hO)⟩
def uT (X:Nat) (v:Value) (b:Nat):Prop:=X<b∧∀g,v.ownBlock=some g→b≠g
structure Argd (R X sb B d K i:Nat) (w wr:World):Prop where
 ex:∃(A:Option Addr) (c:Nat) (xs:List Ex) (vs:List EV),wr.heap[X]?=some (.cells #[.int .i64 (K:Int),.int .i64 0,.string ⟨#[]⟩,.slice A i c] 51 (0,0))∧xs.length=i∧dX.Own 51 wr (X+1) A c vs∧iW (uT X (.slice A i c)) wr xs vs∧∀j x,xs[j]?=some x→Gen d (decide (K=10)&&decide (j=0)) x
 row:wr.heap[R]?=some (.cells z51 51 (0,0))
 drawn:aQ sb B w wr
theorem fO {R X sb B d K i:Nat} {w wr W W3 W4 w5:World} {A A3:Option Addr} {c c3:Nat} {xs:List Ex} {vs:List EV} {x:Ex} {v:EV} (hR:R<X) (hRw:w.heap.size≤X) (hsb:sb<w.heap.size) (hsR:R≠sb) (hB:B≤w.heap.size)
 (hbox:wr.heap[X]?=some (.cells #[.int .i64 (K:Int),.int .i64 0,.string ⟨#[]⟩,.slice A i c] 51 (0,0))) (hlen:xs.length=i) (ho:dX.Own 51 wr (X+1) A c vs) (ht:iW (uT X (.slice A i c)) wr xs vs) (hg:∀j x,xs[j]?=some x→Gen d (decide (K=10)&&decide (j=0)) x)
 (hrow:wr.heap[R]?=some (.cells z51 51 (0,0))) (hdr:aQ sb B w wr) (hW:Below wr.heap.size wr W) (hd3:aQ sb B W W3) (hx:bB (fun b=>W.heap.size≤b) W3 x v) (gx:Gen d (decide (K=10)&&decide (i=0)) x) (hW4:Below W3.heap.size W3 W4)
 (hgr:W4.grownBy w5 (Value.slice A i c).ownBlock) (ho5:dX.Own 51 w5 (X+1) A3 c3 (vs++[v])) (hat:(Value.slice A3 (i+1) c3).ownBlock=(Value.slice A i c).ownBlock∨(Value.slice A3 (i+1) c3).ownBlock=some W4.heap.size):
 Argd R X sb B d K (i+1) w (w5.setCell ⟨X,3,none⟩ (.slice A3 (i+1) c3)):=by
 have hXl:=(gLt hbox)
 have s1:=hW.size
 have s2:=hd3.2.size
 have s3:=hW4.size
 have s4:=hgr.size
 have hvl:vs.length=i:=ht.1.symm.trans hlen
 have hrw:∀r,(Value.slice A i c).ownBlock=some r→X+1≤r∧r<wr.heap.size:=fun r hr=>ho.row r (by rw[hvl];exact hr)
 have keep:∀b,b<W.heap.size→b≠sb→(∀r,(Value.slice A i c).ownBlock=some r→b≠r)→w5.heap[b]?=W.heap[b]?:=fun b hb h1 h2=>
  (hgr.block b (by omega) (fun e=>h2 b e.symm rfl)).trans ((hW4.block b (by omega)).trans (hd3.2.block b hb (by simpa using h1)))
 have hX5:w5.heap[X]?=some (.cells #[.int .i64 (K:Int),.int .i64 0,.string ⟨#[]⟩,.slice A i c] 51 (0,0)):=(keep X (by omega) (by omega) (fun r hr=>by have:=(hrw r hr).1;omega)).trans ((hW.block X hXl).trans hbox)
 have hRl:=(gLt hrow)
 have hR5:w5.heap[R]?=some (.cells z51 51 (0,0)):=(keep R (by omega) hsR (fun r hr=>by have:=(hrw r hr).1;omega)).trans ((hW.block R hRl).trans hrow)
 have hlo:Below w.heap.size W4 w5:=bR.grown hgr (by have:=hdr.2.size;omega) (fun r hr=>by have:=(hrw r hr).1;omega)
 have hdw:aQ sb B w w5:=((((hdr.below hW).trans hd3).below hW4).low hB hlo)
 refine⟨⟨A3,c3,xs++[x],vs++[v],aE w5 X 3 _ 51 _ hX5,by simp[hlen],ho5.far (p:=⟨X,3,none⟩) (Nat.lt_succ_self _) _,?_,?_⟩,(aG w5 ⟨X,3,none⟩ _ R (by dsimp only;omega)).trans hR5,hdw.set hB (p:=⟨X,3,none⟩) hRw _⟩
 ·have hx2:bB (fun b=>W.heap.size≤b∧b<W3.heap.size) W3 x v:=hx.mono (fun b hb hl=>⟨hb,hl⟩)
  have hx3:bB (uT X (.slice A3 (i+1) c3)) (w5.setCell ⟨X,3,none⟩ (.slice A3 (i+1) c3)) x v:=by
   refine(hx2.keep (fun b hb hl=>?_)).mono (fun b hb _=>⟨by omega,fun g hg' e=>?_⟩)
   ·exact(aG w5 ⟨X,3,none⟩ _ b (by dsimp only;omega)).trans ((hgr.block b (by omega) (fun e=>by have:=(hrw b e.symm).2;omega)).trans (hW4.block b hl))
   ·subst e
    rcases hat with h|h
    ·have:=(hrw b (h.symm.trans hg')).2
     omega
    ·rw[h] at hg'
     cases hg'
     omega
  refine ht.snoc hx3 (fun b hb hl=>?_) (fun b hb hl=>⟨hb.1,fun g hg' e=>?_⟩)
  ·have h1:=hb.1
   exact(aG w5 ⟨X,3,none⟩ _ b (by dsimp only;omega)).trans ((keep b (by omega) (by omega) (fun r hr=>hb.2 r hr)).trans (hW.block b hl))
  ·subst e
   rcases hat with h|h
   ·exact hb.2 b (h.symm.trans hg') rfl
   ·rw[h] at hg'
    cases hg'
    omega
 ·intro j y hj
  rcases Nat.lt_or_ge j xs.length with h|h
  ·rw[List.getElem?_append_left h] at hj
   exact hg j y hj
  ·rw[List.getElem?_append_right h] at hj
   obtain rfl:j=i:=by
    have:=(List.getElem?_eq_some_iff.1 hj).1
    simp at this
    omega
   rw[hlen] at hj
   simp at hj
   exact hj▸gx
end Go.Proofs.YtlibhkkckgkkkaaGreatDoor.Tf
namespace Go.Proofs.YtlibhkkckgkkkaaGreatDoor.Tf
open Go.RowKit Go.Proofs.YtlibhkkckgkkkaaGreatDoor.Mem Go.Proofs.YtlibhkkckgkkkaaGreatDoor.Boo Go.Proofs.Tryz
theorem qQ {w:World} {A:Option Addr} {c:Nat} {xs:List (Int×Bool)} (h:dS.At w A c xs) (k:Nat) (x:Int×Bool) (hx:xs[k]?=some x):
 ∃b off,A=some ⟨b,off,none⟩∧b<w.heap.size∧w.cell? ⟨b,off+k * 2,none⟩=some (.int .i64 x.1)∧w.cell? ⟨b,off+k * 2+1,none⟩=some (.bool x.2):=by
 obtain⟨b,off,hA,hlt,hc⟩:=h.get k x hx
 exact⟨b,off,hA,hlt,hc 0 (by decide),hc 1 (by decide)⟩
theorem eQ (b:Nat) (F:Value) (l:List (Int×Bool)) (x:Int×Bool) (a e0:Int) (w:World) (h:MaB b F ⟨l++[x],a,e0⟩ w):
 Calls prog 240 #[.pointer (some ⟨b,0,none⟩)] w fun e w'=>e=.returned (kL x)∧MaB b F ⟨l,a,e0⟩ w'∧aJ b w w':=by
 have hlt:=h.lt
 obtain⟨A,c,hk,ho⟩:=h
 dsimp only at hk ho
 have hn:(l++[x]).length=l.length+1:=by simp
 obtain⟨g,off,rfl,hgl,x0,x1⟩:=qQ ho.at_ l.length x (by simp)
 obtain⟨xn,xs⟩:=x
 dsimp only at x0 x1
 have hc:=ho.at_.le
 have hcm:=ho.at_.max
 have HO:=Hd ho
 have HK:=Hd hk
 rw[hn] at hk
 have c1:w.cell? ⟨b,1,none⟩=some (.slice (some ⟨g,off,none⟩) (l.length+1) c):=aA hk 1
 have f1:w.frozen? ⟨b,1,none⟩=false:=by simp[World.frozen?,hk]
 have hN:l.length+1≤c:=by omega
 have HN:=Hd hn
 clear hk ho hn hc
 have HL:Hid (l.length≤(l++[(xn,xs)]).length∧(l++[(xn,xs)]).take l.length=l):=Hd ⟨by simp,by simp⟩
 obtain⟨N,hNN⟩:∃N,N=l.length+1:=⟨_,rfl⟩
 rw[←hNN] at c1 hN
 have zi:wrap64 ((N:Int)-1)=(l.length:Int):=by rw[Mem.w64 (by omega) (by omega)];omega
 have zl:(l.length:Int)<(N:Int):=by omega
 have z0:(0:Int)≤(l.length:Int):=by omega
 have zc:(l.length:Int)≤(c:Int):=by omega
 have HNN:=Hd hNN
 clear hNN hN hcm
 generalize l.length=n at *
 unfold kL
 go_enter func240,ntmps240
 go_wp2_with fail
 obtain⟨h1,h2⟩:=MaB.setS (m:=⟨l++[(xn,xs)],a,e0⟩) HK.out HO.out n HL.out.1
 rw[HL.out.2] at h1
 refine bodyPost_ret (v:=.agg #[.int .i64 xn,.bool xs]) (by simp[results,results240,go_sem, *]) rfl ⟨rfl,h1.below (aB (aB bR _) _),(h2.alloc (Nat.le_of_lt h1.lt) _).alloc ?_ _⟩
 have:=h1.lt
 simp at this ⊢
 omega
def kA (p:Bool):Int×Bool:=(if p then 1 else 0,true)
theorem tD (p:Bool) (w:World):Calls prog 242 #[.bool p] w (Ret (kL (kA p)) w):=by
 unfold kL kA
 cases p
 ·go_enter func242,ntmps242
  go_wp2_with fail
  exact bodyPost_ret (v:=.agg #[.int .i64 0,.bool true]) (by simp[results,results242,go_sem, *]) rfl ⟨rfl,blw⟩
 ·go_enter func242,ntmps242
  go_wp2_with fail
  exact bodyPost_ret (v:=.agg #[.int .i64 1,.bool true]) (by simp[results,results242,go_sem, *]) rfl ⟨rfl,blw⟩
theorem nT (b:Nat) (k o n:Int) (s:ByteArray) (hk:tA k n s) (L:List aW) (hL:iY L) (A:Option Addr) (c m:Nat) (hm:L.length=m) (M:MS) (w:World) (G:Gl w) (h:dF.At w A c L) (hM:MaB b (.slice A m c) M w):
 Calls prog 231 #[.pointer (some ⟨b,0,none⟩),.int .i64 k,.agg #[.int .i64 o,.int .i64 n,.string s]] w fun e w'=>e=.returned (.tuple #[])∧MaB b (.slice A m c) (cX (cC k n s L) M) w'∧aJ b w w':=by
 have hlt:=hM.lt
 have HEV:Hid (∀W,Below w.heap.size w W→Calls prog 284 #[.agg #[.int .i64 k,.int .i64 n,.string s,.slice none 0 0],.slice A m c] W (Ret (.tuple #[.int .i64 (cC k n s L).1,.bool (cC k n s L).2,.int .i64 0]) W)):=Hd (fun W hW=>aEx k n s hk L hL A c m hm W (G.below hW) (h.below hW))
 generalize cC k n s L=r at HEV ⊢
 obtain⟨r1,r2⟩:=r
 have HPU:Hid (∀W,Below w.heap.size w W→Calls prog 241 #[.pointer (some ⟨b,0,none⟩),.agg #[.int .i64 r1,.bool r2]] W fun e w'=>e=.returned (.tuple #[])∧MaB b (.slice A m c) (cX (r1,r2) M) w'∧aJ b W w'):=Hd (fun W hW=>fY b _ (r1,r2) M W (hM.below hW))
 have HB:=Hd hlt
 obtain⟨A2,c2,hk2,ho2⟩:=hM
 have d0:w.cell? ⟨b,0,none⟩=some (.slice A m c):=aA hk2 0
 clear hk hL hm h G hk2 ho2
 go_enter func231,ntmps231
 go_wp2_with fail
 go_region_with (first
  |(go_at_call 284;go_must (refine rB w (HEV.out _ blw) ?_;intro W1 HB1)))
 all_goals go_wp2_with (first
  |(go_at_call 241;go_must (refine(HPU.out _ blw).mono ?_;rintro e W2 ⟨rfl,hW2,hk2⟩;have HW2:=Hd hW2;have HK2:=Hd hk2;clear hW2 hk2)))
 all_goals go_end0
 all_goals exact⟨rfl,HW2.out,(aJ.ofB HB.out blw).trans HK2.out⟩
theorem jK {k:Nat} {M:MS} (h:(bC k M).e=0):bC k M=M∧k≤M.st.length∧M.e=0:=by
 unfold bC at h ⊢
 by_cases hl:M.st.length<k
 ·rw[if_pos hl] at h;cases h
 ·rw[if_neg hl] at h ⊢;exact⟨rfl,by omega,h⟩
def mR (a b:Int):Int×Int:=MoneyA.xX a b (MoneyA.sU (a-b))
def fU (f:Int→Int×Int) (l:List (Int×Bool)) (x:Int×Bool) (a:Int):MS:=
 if x.2=true then(if(f x.1).2=0 then cX ((mR x.1 (f x.1).1).1,true) ⟨l,a,(mR x.1 (f x.1).1).2⟩ else cX (x.1,true) ⟨l,a,(f x.1).2⟩) else cX x ⟨l,a,0⟩
def eT (f:Int→Int×Int) (M:MS):MS:=if(bC 1 M).e=0 then fU f M.st.dropLast (M.st.getLast?.getD (0,false)) M.at_ else bC 1 M
theorem tN (f:Int→Int×Int) (l:List (Int×Bool)) (x:Int×Bool) (a:Int):eT f ⟨l++[x],a,0⟩=fU f l x a:=by
 unfold eT bC
 simp
theorem aD3 (b g:Nat) (F:Value) (f:Int→Int×Int) (C:Array Value) (M:MS) (w:World) (hM:MaB b F M w) (hg:g≠b) (hG:w.heap[g]?=some (.cells C 197 (0,0))) (hf:∀W v,W.heap[g]?=some (.cells C 197 (0,0))→Calls prog 233 #[.int .i64 v,.pointer (some ⟨g,0,none⟩)] W (Ret (.tuple #[.int .i64 (f v).1,.int .i64 (f v).2]) W)):
 Calls prog 232 #[.pointer (some ⟨b,0,none⟩),.func (.func 233) #[] #[.pointer (some ⟨g,0,none⟩)]] w fun e w'=>e=.returned (.tuple #[])∧MaB b F (eT f M) w'∧aJ b w w':=by
 have hlt:=hM.lt
 have HM:=Hd hM
 by_cases he:(bC 1 M).e=0
 ·obtain⟨en,el,ee⟩:=jK he
  obtain⟨l,x,hx⟩:∃l x,M.st=l++[x]:=⟨M.st.dropLast,M.st.getLast (by intro h;rw[h] at el;simp at el),(List.dropLast_concat_getLast _).symm⟩
  obtain⟨st,a,e0⟩:=M
  dsimp only at hx ee
  subst hx ee
  have HMM:Hid (eT f ⟨l++[x],a,0⟩=fU f l x a):=Hd (tN f l x a)
  have HN:Hid (∀W,MaB b F ⟨l++[x],a,0⟩ W→Calls prog 239 #[.pointer (some ⟨b,0,none⟩),.int .i64 1] W fun e w'=>e=.returned (.bool true)∧MaB b F ⟨l++[x],a,0⟩ w'∧aJ b W w'):=Hd (fun W hW=>by have:=cU b F 1 _ W hW;rw[en] at this;exact this)
  have HT:Hid (∀W,MaB b F ⟨l++[x],a,0⟩ W→Calls prog 240 #[.pointer (some ⟨b,0,none⟩)] W fun e w'=>e=.returned (kL x)∧MaB b F ⟨l,a,0⟩ w'∧aJ b W w'):=Hd (fun W hW=>eQ b F l x a 0 W hW)
  have HG:=Hd hG
  have HGB:=Hd hg
  have HGL:=Hd (gLt hG)
  have HB:=Hd hlt
  obtain⟨xn,xp⟩:=x
  unfold kL at HT
  clear he en el hM hG hg
  cases xp
  ·have HP:Hid (∀W,MaB b F ⟨l,a,0⟩ W→Calls prog 241 #[.pointer (some ⟨b,0,none⟩),.agg #[.int .i64 xn,.bool false]] W fun e w'=>e=.returned (.tuple #[])∧MaB b F (fU f l (xn,false) a) w'∧aJ b W w'):=Hd (fun W hW=>fY b F (xn,false) _ W hW)
   clear hf
   go_enter func232,ntmps232
   go_wp2_with (first
    |(go_at_call 239;go_must (refine(HN.out _ HM.out).mono ?_;rintro e W1 ⟨rfl,hW1,hk1⟩;have HW1:=Hd hW1;have HK1:=Hd hk1;clear hW1 hk1))
    |(go_at_call 240;go_must (refine(HT.out _ HW1.out).mono ?_;rintro e W2 ⟨rfl,hW2,hk2⟩;have HW2:=Hd hW2;have HK2:=Hd hk2;have hl2:=hW2.lt;clear hW2 hk2))
    |(go_at_call 241;go_must (refine(HP.out _ (HW2.out.below (aB bR _))).mono ?_;rintro e W3 ⟨rfl,hW3,hk3⟩;have HW3:=Hd hW3;have HK3:=Hd hk3;clear hW3 hk3)))
   go_end0
   exact⟨rfl,by rw[HMM.out];exact HW3.out,(HK1.out.trans HK2.out).trans (((aJ.refl _ _).alloc (Nat.le_of_lt HW2.out.lt) _).trans HK3.out)⟩
  ·have HF:Hid (∀W,W.heap[g]?=some (.cells C 197 (0,0))→Calls prog 233 #[.int .i64 xn,.pointer (some ⟨g,0,none⟩)] W (Ret (.tuple #[.int .i64 (f xn).1,.int .i64 (f xn).2]) W)):=Hd (fun W hW=>hf W xn hW)
   have HP:Hid (∀W e v,MaB b F ⟨l,a,e⟩ W→Calls prog 241 #[.pointer (some ⟨b,0,none⟩),.agg #[.int .i64 v,.bool true]] W fun e' w'=>e'=.returned (.tuple #[])∧MaB b F (cX (v,true) ⟨l,a,e⟩) w'∧aJ b W w'):=Hd (fun W e v hW=>fY b F (v,true) _ W hW)
   have HS:Hid (∀q W,Calls prog 285 #[.int .i64 xn,.int .i64 q] W fun e w'=>e=.returned (.tuple #[.int .i64 (mR xn q).1,.int .i64 (mR xn q).2])∧w'=W):=Hd (fun q W=>MoneyA.aBl xn q W)
   have HR:Hid (fU f l (xn,true) a=if(f xn).2=0 then cX ((mR xn (f xn).1).1,true) ⟨l,a,(mR xn (f xn).1).2⟩ else cX (xn,true) ⟨l,a,(f xn).2⟩):=Hd (by unfold fU;rfl)
   clear hf
   generalize f xn=fv at HF HR
   obtain⟨q,eq⟩:=fv
   dsimp only at HF HR
   by_cases hq:eq=0
   ·subst hq
    have HR2:Hid (fU f l (xn,true) a=cX ((mR xn q).1,true) ⟨l,a,(mR xn q).2⟩):=Hd (by rw[HR.out];rfl)
    replace HS:=Hd (HS.out q)
    clear HR
    generalize mR xn q=sv at HS HR2
    obtain⟨s1,s2⟩:=sv
    dsimp only at HS HR2
    go_enter func232,ntmps232
    go_wp2_with (first
     |(go_at_call 239;go_must (refine(HN.out _ HM.out).mono ?_;rintro e W1 ⟨rfl,hW1,hk1⟩;have HW1:=Hd hW1;have HK1:=Hd hk1;clear hW1 hk1))
     |(go_at_call 240;go_must (refine(HT.out _ HW1.out).mono ?_;rintro e W2 ⟨rfl,hW2,hk2⟩;have HW2:=Hd hW2;have HK2:=Hd hk2;have hl2:=hW2.lt;clear hW2 hk2))
     |(go_at_call 233;go_must (refine(HF.out _ ((Below.heap_alloc _ _ _ (Nat.lt_of_lt_of_le HGL.out (HK1.out.trans HK2.out).size)).trans ((HK1.out.trans HK2.out).block HG.out HGB.out (by decide)))).mono ?_;rintro e W3 ⟨rfl,hb⟩;have HB3:=bst W2 hb;(obtain⟨⟨kc1_0_0,kc1_0_1⟩,kl1_0,kf1_0⟩:=kb2 hb (W2.heap.size) (.int .i64 xn) (.bool true));clear hb;obtain⟨A3,c3,hk3,ho3⟩:=HW2.out.below HB3.out;have d3:W3.cell? ⟨b,3,none⟩=some (.int .i64 0):=aA hk3 3;have g3:W3.frozen? ⟨b,3,none⟩=false:=fH hk3 3;have hl3:=(gLt hk3);clear hk3 ho3))
     |(go_at_call 285;go_must (refine(HS.out _).mono ?_;rintro e W4 ⟨rfl,rfl⟩))
     |(go_at_call 241;go_must (obtain⟨h5,k5⟩:=(HW2.out.below (show Below W2.heap.size W2 (W4.setCell ⟨W2.heap.size,0,none⟩ (.int .i64 s1)) from aH HB3.out nR _)).setE s2;have HK5:=Hd ((aJ.ofB HW2.out.lt (show Below W2.heap.size W2 (W4.setCell ⟨W2.heap.size,0,none⟩ (.int .i64 s1)) from aH HB3.out nR _)).trans k5);refine(HP.out _ _ _ h5).mono ?_;clear h5 k5;rintro e W6 ⟨rfl,hW6,hk6⟩;have HW6:=Hd hW6;have HK6:=Hd hk6;clear hW6 hk6)))
    go_end0
    exact⟨rfl,by rw[HMM.out,HR2.out];exact HW6.out,(HK1.out.trans HK2.out).trans (HK5.out.trans HK6.out)⟩
   ·have HR2:Hid (fU f l (xn,true) a=cX (xn,true) ⟨l,a,eq⟩):=Hd (by rw[HR.out,if_neg hq])
    have zq:(eq==0)=false:=bN hq
    clear HR HS hq
    go_enter func232,ntmps232
    go_wp2_with (first
     |(go_at_call 239;go_must (refine(HN.out _ HM.out).mono ?_;rintro e W1 ⟨rfl,hW1,hk1⟩;have HW1:=Hd hW1;have HK1:=Hd hk1;clear hW1 hk1))
     |(go_at_call 240;go_must (refine(HT.out _ HW1.out).mono ?_;rintro e W2 ⟨rfl,hW2,hk2⟩;have HW2:=Hd hW2;have HK2:=Hd hk2;have hl2:=hW2.lt;clear hW2 hk2))
     |(go_at_call 233;go_must (refine(HF.out _ ((Below.heap_alloc _ _ _ (Nat.lt_of_lt_of_le HGL.out (HK1.out.trans HK2.out).size)).trans ((HK1.out.trans HK2.out).block HG.out HGB.out (by decide)))).mono ?_;rintro e W3 ⟨rfl,hb⟩;have HB3:=bst W2 hb;(obtain⟨⟨kc2_0_0,kc2_0_1⟩,kl2_0,kf2_0⟩:=kb2 hb (W2.heap.size) (.int .i64 xn) (.bool true));clear hb;obtain⟨A3,c3,hk3,ho3⟩:=HW2.out.below HB3.out;have d3:W3.cell? ⟨b,3,none⟩=some (.int .i64 0):=aA hk3 3;have g3:W3.frozen? ⟨b,3,none⟩=false:=fH hk3 3;have hl3:=(gLt hk3);clear hk3 ho3))
     |(go_at_call 241;go_must (obtain⟨h5,k5⟩:=(HW2.out.below HB3.out).setE eq;have HK5:=Hd ((aJ.ofB HW2.out.lt HB3.out).trans k5);refine(HP.out _ _ _ h5).mono ?_;clear h5 k5;rintro e W6 ⟨rfl,hW6,hk6⟩;have HW6:=Hd hW6;have HK6:=Hd hk6;clear hW6 hk6)))
    go_end0
    exact⟨rfl,by rw[HMM.out,HR2.out];exact HW6.out,(HK1.out.trans HK2.out).trans (HK5.out.trans HK6.out)⟩
 ·have HMM:Hid (eT f M=bC 1 M):=Hd (if_neg he)
  have ze:((bC 1 M).e==0)=false:=bN he
  have HN:Hid (∀W,MaB b F M W→Calls prog 239 #[.pointer (some ⟨b,0,none⟩),.int .i64 1] W fun e w'=>e=.returned (.bool ((bC 1 M).e==0))∧MaB b F (bC 1 M) w'∧aJ b W w'):=Hd (fun W hW=>cU b F 1 M W hW)
  clear he hf hM hG
  go_enter func232,ntmps232
  go_wp2_with (first
   |(go_at_call 239;go_must (refine(HN.out _ HM.out).mono ?_;rintro e W1 ⟨rfl,hW1,hk1⟩;have HW1:=Hd hW1;have HK1:=Hd hk1;clear hW1 hk1)))
  refine bodyPost_ret (results_none rfl _ _ _) rfl ?_
  exact⟨rfl,by rw[HMM.out];exact HW1.out,HK1.out⟩
theorem aD2 (b g:Nat) (F:Value) (f:Int→Int×Int) (C:Array Value) (M:MS) (w:World) (hM:MaB b F M w) (hg:g≠b) (hG:w.heap[g]?=some (.cells C 197 (0,0))) (hf:∀W v,W.heap[g]?=some (.cells C 197 (0,0))→Calls prog 234 #[.int .i64 v,.pointer (some ⟨g,0,none⟩)] W (Ret (.tuple #[.int .i64 (f v).1,.int .i64 (f v).2]) W)):
 Calls prog 232 #[.pointer (some ⟨b,0,none⟩),.func (.func 234) #[] #[.pointer (some ⟨g,0,none⟩)]] w fun e w'=>e=.returned (.tuple #[])∧MaB b F (eT f M) w'∧aJ b w w':=by
 have hlt:=hM.lt
 have HM:=Hd hM
 by_cases he:(bC 1 M).e=0
 ·obtain⟨en,el,ee⟩:=jK he
  obtain⟨l,x,hx⟩:∃l x,M.st=l++[x]:=⟨M.st.dropLast,M.st.getLast (by intro h;rw[h] at el;simp at el),(List.dropLast_concat_getLast _).symm⟩
  obtain⟨st,a,e0⟩:=M
  dsimp only at hx ee
  subst hx ee
  have HMM:Hid (eT f ⟨l++[x],a,0⟩=fU f l x a):=Hd (tN f l x a)
  have HN:Hid (∀W,MaB b F ⟨l++[x],a,0⟩ W→Calls prog 239 #[.pointer (some ⟨b,0,none⟩),.int .i64 1] W fun e w'=>e=.returned (.bool true)∧MaB b F ⟨l++[x],a,0⟩ w'∧aJ b W w'):=Hd (fun W hW=>by have:=cU b F 1 _ W hW;rw[en] at this;exact this)
  have HT:Hid (∀W,MaB b F ⟨l++[x],a,0⟩ W→Calls prog 240 #[.pointer (some ⟨b,0,none⟩)] W fun e w'=>e=.returned (kL x)∧MaB b F ⟨l,a,0⟩ w'∧aJ b W w'):=Hd (fun W hW=>eQ b F l x a 0 W hW)
  have HG:=Hd hG
  have HGB:=Hd hg
  have HGL:=Hd (gLt hG)
  have HB:=Hd hlt
  obtain⟨xn,xp⟩:=x
  unfold kL at HT
  clear he en el hM hG hg
  cases xp
  ·have HP:Hid (∀W,MaB b F ⟨l,a,0⟩ W→Calls prog 241 #[.pointer (some ⟨b,0,none⟩),.agg #[.int .i64 xn,.bool false]] W fun e w'=>e=.returned (.tuple #[])∧MaB b F (fU f l (xn,false) a) w'∧aJ b W w'):=Hd (fun W hW=>fY b F (xn,false) _ W hW)
   clear hf
   go_enter func232,ntmps232
   go_wp2_with (first
    |(go_at_call 239;go_must (refine(HN.out _ HM.out).mono ?_;rintro e W1 ⟨rfl,hW1,hk1⟩;have HW1:=Hd hW1;have HK1:=Hd hk1;clear hW1 hk1))
    |(go_at_call 240;go_must (refine(HT.out _ HW1.out).mono ?_;rintro e W2 ⟨rfl,hW2,hk2⟩;have HW2:=Hd hW2;have HK2:=Hd hk2;have hl2:=hW2.lt;clear hW2 hk2))
    |(go_at_call 241;go_must (refine(HP.out _ (HW2.out.below (aB bR _))).mono ?_;rintro e W3 ⟨rfl,hW3,hk3⟩;have HW3:=Hd hW3;have HK3:=Hd hk3;clear hW3 hk3)))
   go_end0
   exact⟨rfl,by rw[HMM.out];exact HW3.out,(HK1.out.trans HK2.out).trans (((aJ.refl _ _).alloc (Nat.le_of_lt HW2.out.lt) _).trans HK3.out)⟩
  ·have HF:Hid (∀W,W.heap[g]?=some (.cells C 197 (0,0))→Calls prog 234 #[.int .i64 xn,.pointer (some ⟨g,0,none⟩)] W (Ret (.tuple #[.int .i64 (f xn).1,.int .i64 (f xn).2]) W)):=Hd (fun W hW=>hf W xn hW)
   have HP:Hid (∀W e v,MaB b F ⟨l,a,e⟩ W→Calls prog 241 #[.pointer (some ⟨b,0,none⟩),.agg #[.int .i64 v,.bool true]] W fun e' w'=>e'=.returned (.tuple #[])∧MaB b F (cX (v,true) ⟨l,a,e⟩) w'∧aJ b W w'):=Hd (fun W e v hW=>fY b F (v,true) _ W hW)
   have HS:Hid (∀q W,Calls prog 285 #[.int .i64 xn,.int .i64 q] W fun e w'=>e=.returned (.tuple #[.int .i64 (mR xn q).1,.int .i64 (mR xn q).2])∧w'=W):=Hd (fun q W=>MoneyA.aBl xn q W)
   have HR:Hid (fU f l (xn,true) a=if(f xn).2=0 then cX ((mR xn (f xn).1).1,true) ⟨l,a,(mR xn (f xn).1).2⟩ else cX (xn,true) ⟨l,a,(f xn).2⟩):=Hd (by unfold fU;rfl)
   clear hf
   generalize f xn=fv at HF HR
   obtain⟨q,eq⟩:=fv
   dsimp only at HF HR
   by_cases hq:eq=0
   ·subst hq
    have HR2:Hid (fU f l (xn,true) a=cX ((mR xn q).1,true) ⟨l,a,(mR xn q).2⟩):=Hd (by rw[HR.out];rfl)
    replace HS:=Hd (HS.out q)
    clear HR
    generalize mR xn q=sv at HS HR2
    obtain⟨s1,s2⟩:=sv
    dsimp only at HS HR2
    go_enter func232,ntmps232
    go_wp2_with (first
     |(go_at_call 239;go_must (refine(HN.out _ HM.out).mono ?_;rintro e W1 ⟨rfl,hW1,hk1⟩;have HW1:=Hd hW1;have HK1:=Hd hk1;clear hW1 hk1))
     |(go_at_call 240;go_must (refine(HT.out _ HW1.out).mono ?_;rintro e W2 ⟨rfl,hW2,hk2⟩;have HW2:=Hd hW2;have HK2:=Hd hk2;have hl2:=hW2.lt;clear hW2 hk2))
     |(go_at_call 234;go_must (refine(HF.out _ ((Below.heap_alloc _ _ _ (Nat.lt_of_lt_of_le HGL.out (HK1.out.trans HK2.out).size)).trans ((HK1.out.trans HK2.out).block HG.out HGB.out (by decide)))).mono ?_;rintro e W3 ⟨rfl,hb⟩;have HB3:=bst W2 hb;(obtain⟨⟨kc1_0_0,kc1_0_1⟩,kl1_0,kf1_0⟩:=kb2 hb (W2.heap.size) (.int .i64 xn) (.bool true));clear hb;obtain⟨A3,c3,hk3,ho3⟩:=HW2.out.below HB3.out;have d3:W3.cell? ⟨b,3,none⟩=some (.int .i64 0):=aA hk3 3;have g3:W3.frozen? ⟨b,3,none⟩=false:=fH hk3 3;have hl3:=(gLt hk3);clear hk3 ho3))
     |(go_at_call 285;go_must (refine(HS.out _).mono ?_;rintro e W4 ⟨rfl,rfl⟩))
     |(go_at_call 241;go_must (obtain⟨h5,k5⟩:=(HW2.out.below (show Below W2.heap.size W2 (W4.setCell ⟨W2.heap.size,0,none⟩ (.int .i64 s1)) from aH HB3.out nR _)).setE s2;have HK5:=Hd ((aJ.ofB HW2.out.lt (show Below W2.heap.size W2 (W4.setCell ⟨W2.heap.size,0,none⟩ (.int .i64 s1)) from aH HB3.out nR _)).trans k5);refine(HP.out _ _ _ h5).mono ?_;clear h5 k5;rintro e W6 ⟨rfl,hW6,hk6⟩;have HW6:=Hd hW6;have HK6:=Hd hk6;clear hW6 hk6)))
    go_end0
    exact⟨rfl,by rw[HMM.out,HR2.out];exact HW6.out,(HK1.out.trans HK2.out).trans (HK5.out.trans HK6.out)⟩
   ·have HR2:Hid (fU f l (xn,true) a=cX (xn,true) ⟨l,a,eq⟩):=Hd (by rw[HR.out,if_neg hq])
    have zq:(eq==0)=false:=bN hq
    clear HR HS hq
    go_enter func232,ntmps232
    go_wp2_with (first
     |(go_at_call 239;go_must (refine(HN.out _ HM.out).mono ?_;rintro e W1 ⟨rfl,hW1,hk1⟩;have HW1:=Hd hW1;have HK1:=Hd hk1;clear hW1 hk1))
     |(go_at_call 240;go_must (refine(HT.out _ HW1.out).mono ?_;rintro e W2 ⟨rfl,hW2,hk2⟩;have HW2:=Hd hW2;have HK2:=Hd hk2;have hl2:=hW2.lt;clear hW2 hk2))
     |(go_at_call 234;go_must (refine(HF.out _ ((Below.heap_alloc _ _ _ (Nat.lt_of_lt_of_le HGL.out (HK1.out.trans HK2.out).size)).trans ((HK1.out.trans HK2.out).block HG.out HGB.out (by decide)))).mono ?_;rintro e W3 ⟨rfl,hb⟩;have HB3:=bst W2 hb;(obtain⟨⟨kc2_0_0,kc2_0_1⟩,kl2_0,kf2_0⟩:=kb2 hb (W2.heap.size) (.int .i64 xn) (.bool true));clear hb;obtain⟨A3,c3,hk3,ho3⟩:=HW2.out.below HB3.out;have d3:W3.cell? ⟨b,3,none⟩=some (.int .i64 0):=aA hk3 3;have g3:W3.frozen? ⟨b,3,none⟩=false:=fH hk3 3;have hl3:=(gLt hk3);clear hk3 ho3))
     |(go_at_call 241;go_must (obtain⟨h5,k5⟩:=(HW2.out.below HB3.out).setE eq;have HK5:=Hd ((aJ.ofB HW2.out.lt HB3.out).trans k5);refine(HP.out _ _ _ h5).mono ?_;clear h5 k5;rintro e W6 ⟨rfl,hW6,hk6⟩;have HW6:=Hd hW6;have HK6:=Hd hk6;clear hW6 hk6)))
    go_end0
    exact⟨rfl,by rw[HMM.out,HR2.out];exact HW6.out,(HK1.out.trans HK2.out).trans (HK5.out.trans HK6.out)⟩
 ·have HMM:Hid (eT f M=bC 1 M):=Hd (if_neg he)
  have ze:((bC 1 M).e==0)=false:=bN he
  have HN:Hid (∀W,MaB b F M W→Calls prog 239 #[.pointer (some ⟨b,0,none⟩),.int .i64 1] W fun e w'=>e=.returned (.bool ((bC 1 M).e==0))∧MaB b F (bC 1 M) w'∧aJ b W w'):=Hd (fun W hW=>cU b F 1 M W hW)
  clear he hf hM hG
  go_enter func232,ntmps232
  go_wp2_with (first
   |(go_at_call 239;go_must (refine(HN.out _ HM.out).mono ?_;rintro e W1 ⟨rfl,hW1,hk1⟩;have HW1:=Hd hW1;have HK1:=Hd hk1;clear hW1 hk1)))
  refine bodyPost_ret (results_none rfl _ _ _) rfl ?_
  exact⟨rfl,by rw[HMM.out];exact HW1.out,HK1.out⟩
end Go.Proofs.YtlibhkkckgkkkaaGreatDoor.Tf
