/- Part of the proof of TopFeeds: LwE MdlE DoD LwF. -/
import Derived.Test.YtlibhkkckgkkkaaGreatDoorZAN
import Derived.Test.YtlibhkkckgkkkaaGreatDoorZBA
import Derived.Test.YtlibhkkckgkkkaaGreatDoorZBF
set_option maxHeartbeats 4000000
set_option maxRecDepth 100000
namespace Go.Proofs.YtlibhkkckgkkkaaGreatDoor.Tf
open Go.RowKit Go.Proofs.YtlibhkkckgkkkaaGreatDoor.Mem Go.Proofs.YtlibhkkckgkkkaaGreatDoor.Boo
theorem jC {α:Type} {d:En α} {e:TypeId} {sb B X c:Nat} {wr W:World} {A:Option Addr} {xs:List α} (ho:d.Own e wr (X+1) A c xs) (hd:aQ sb B wr W) (hsb:sb<X+1):d.Own e W (X+1) A c xs:=
 rQ ho (fun r o hr hi=>hd.row hi (by have:=(ho.row r hr).1;omega))
theorem iA {X sb B i c:Nat} {wr W3 W4 w5:World} {A:Option Addr} {vs:List EV} {cs:Array Value} (hbox:wr.heap[X]?=some (.cells cs 51 (0,0))) (ho:dX.Own 51 wr (X+1) A c vs) (hv:vs.length=i) (hsb:X≠sb) (hd:aQ sb B wr W3) (hW4:Below W3.heap.size W3 W4) (hgr:W4.grownBy w5 (Value.slice A i c).ownBlock):w5.heap[X]?=some (.cells cs 51 (0,0)):=by
 have h3:=hd.row hbox hsb
 have h4:=(hW4.block X (gLt h3)).trans h3
 exact(hgr.block X (gLt h4) (fun e=>by have:=(ho.row X (by rw[hv];exact e.symm)).1;omega)).trans h4
theorem gA {X sb B d K m c:Nat} {w wr W F:World} {A:Option Addr} {xs:List Ex} {vs:List EV} (n:Int) (s:ByteArray) (hX:w.heap.size≤X) (hsb:sb<w.heap.size) (ho:dX.Own 51 wr (X+1) A c vs) (ht:iW (uT X (.slice A m c)) wr xs vs) (hlen:xs.length=m)
 (hW:aQ sb B wr W) (hF:∀b,X<b→b<W.heap.size→F.heap[b]?=W.heap[b]?) (hd:aQ sb B w F) (hg:Gen (d+1) false (.node K n s xs)):
 eV sb B (d+1) false w (.returned (.agg #[.int .i64 (K:Int),.int .i64 n,.string s,.slice A m c])) F:=by
 have keep:∀b,X<b→b<wr.heap.size→F.heap[b]?=wr.heap[b]?:=fun b h1 h2=>(hF b h1 (Nat.lt_of_lt_of_le h2 hW.2.size)).trans (hW.2.block b h2 (by simp;omega))
 refine⟨.node K n s xs,⟨K,n,s,A,m,c⟩,rfl,?_,hg,hd⟩
 have hv:vs.length=xs.length:=ht.1.symm
 rw[←hlen]
 refine bB.mk _ n s xs A c vs hv (vK ho.at_ (fun b o f h0 e=>?_)) (fun h0 b o f e=>?_) (fun i x v h1 h2=>?_)
 ·have hr:=ho.row b (by rw[e];rfl)
  exact keep b (by omega) hr.2
 ·have hr:=ho.row b (by rw[e];rfl)
  show w.heap.size≤b
  omega
 ·exact(((ht.2 i x v h1 h2).mono (S':=fun b=>X<b∧b<wr.heap.size) (fun b hb hl=>⟨hb.1,hl⟩)).keep (fun b hb _=>keep b hb.1 hb.2)).mono (fun b hb _=>by omega)
theorem sW {X R b:Nat} {W:World} (hR:R<X) (hb:X<b) (u0 u1 u2 u3:Value):((((W.setCell ⟨R,0,none⟩ u0).setCell ⟨R,1,none⟩ u1).setCell ⟨R,2,none⟩ u2).setCell ⟨R,3,none⟩ u3).heap[b]?=W.heap[b]?:=by
 have hn:b≠R:=by omega
 rw[aG _ ⟨R,3,none⟩ u3 b hn,aG _ ⟨R,2,none⟩ u2 b hn,aG _ ⟨R,1,none⟩ u1 b hn,aG _ ⟨R,0,none⟩ u0 b hn]
theorem kC {sb B R:Nat} {w W:World} (h:aQ sb B w W) (hB:B≤w.heap.size) (hR:w.heap.size≤R) (u0 u1 u2 u3:Value):aQ sb B w ((((W.setCell ⟨R,0,none⟩ u0).setCell ⟨R,1,none⟩ u1).setCell ⟨R,2,none⟩ u2).setCell ⟨R,3,none⟩ u3):=
 (((h.set hB (p:=⟨R,0,none⟩) hR _).set hB (p:=⟨R,1,none⟩) hR _).set hB (p:=⟨R,2,none⟩) hR _).set hB (p:=⟨R,3,none⟩) hR _
structure Mo (B mb qb hb pb db:Nat) (mv:Value) (xs:List (Int×Int)) (sk:List Sku) (se:List fA) (ou:List Out.bH) (sh:List (Int×Int)) (w:World):Prop where
 ex:∃SA sc NA nc OA oc HA hc,w.heap[mb]?=some (.cells #[.int .i64 0,.slice SA sk.length sc,.slice NA se.length nc,.pointer (some ⟨qb,0,none⟩),.slice OA ou.length oc,.slice HA sh.length hc,mv,.int .i64 0] 73 (0,0))∧dSk.Own 143 w B SA sc sk∧dN.Own 239 w B NA nc se∧Out.dO.Own 145 w B OA oc ou∧dSh.Own 147 w B HA hc sh
 queue:fB qb hb pb db B xs w
 lo:B≤mb
theorem Mo.below {B mb qb hb pb db:Nat} {mv:Value} {xs:List (Int×Int)} {sk:List Sku} {se:List fA} {ou:List Out.bH} {sh:List (Int×Int)} {w w':World} (h:Mo B mb qb hb pb db mv xs sk se ou sh w) (k:Below w.heap.size w w'):Mo B mb qb hb pb db mv xs sk se ou sh w':=by
 obtain⟨⟨SA,sc,NA,nc,OA,oc,HA,hc,h1,h2,h3,h4,h5⟩,h6,h7⟩:=h
 exact⟨⟨SA,sc,NA,nc,OA,oc,HA,hc,(k.block mb (gLt h1)).trans h1,h2.below k,h3.below k,h4.below k,h5.below k⟩,h6.below k,h7⟩
theorem iE.cellsB {qb hb pb db B:Nat} {xs:List (Int×Int)} {w w':World} (h:fB qb hb pb db B xs w) (k:iE hb pb db B w w') {i:Nat} {cs:Array Value} {t:TypeId} {fz:Nat×Nat} (hi:w.heap[i]?=some (.cells cs t fz)) (h1:t≠228) (h2:t≠253):w'.heap[i]?=some (.cells cs t fz):=by
 obtain⟨A,c,es,clk,a1,a2,a3,a4⟩:=h.heap.ex
 obtain⟨clk2,a5⟩:=h.dirty
 refine k.other i _ hi ?_ ?_ ?_ (fun c f e=>?_)
 ·rintro rfl
  rw[a1] at hi
  injection hi with hi
  injection hi with _ e _
  exact h1 e.symm
 ·rintro rfl
  rw[a3] at hi
  cases hi
 ·rintro rfl
  rw[a5] at hi
  cases hi
 ·injection e with _ e _
  exact h2 e
theorem iE.own {α:Type} {d:En α} {e:TypeId} {base c:Nat} {A:Option Addr} {ys:List α} {qb hb pb db B:Nat} {xs:List (Int×Int)} {w w':World} (h:fB qb hb pb db B xs w) (k:iE hb pb db B w w') (ho:d.Own e w base A c ys) (h1:e≠228) (h2:e≠253):d.Own e w' base A c ys:=by
 refine rQ ho (fun r o hr hi=>?_)
 obtain⟨cur,fz,hg⟩:=Lib.ownsRow_kind ho r hr
 rw[hg] at hi
 injection hi with hi
 subst hi
 exact k.cellsB h hg h1 h2
end Go.Proofs.YtlibhkkckgkkkaaGreatDoor.Tf
namespace Go.Proofs.YtlibhkkckgkkkaaGreatDoor.Tf
open Go.RowKit Go.Proofs.YtlibhkkckgkkkaaGreatDoor.Mem Go.Proofs.YtlibhkkckgkkkaaGreatDoor.Boo Go.Proofs.Tryz
abbrev akL:List Nat:=[38,42,212,115,119,5]
structure aT (B:Nat) (w w':World):Prop where
 below:Below B w w'
 other:∀(i:Nat) (cs:Array Value) (t:TypeId) (fz:Nat×Nat),t∈akL→w.heap[i]?=some (.cells cs t fz)→w'.heap[i]?=some (.cells cs t fz)
 size:w.heap.size≤w'.heap.size
theorem aT.refl (B:Nat) (w:World):aT B w w:=⟨bR,fun _ _ _ _ _ h=>h,nR⟩
theorem aT.trans {B:Nat} {w1 w2 w3:World} (h:aT B w1 w2) (k:aT B w2 w3):aT B w1 w3:=⟨h.below.trans k.below,fun i cs t fz ht hi=>k.other i cs t fz ht (h.other i cs t fz ht hi),Nat.le_trans h.size k.size⟩
theorem aT.ofB {B:Nat} {w w':World} (hB:B≤w.heap.size) (h:Below w.heap.size w w'):aT B w w':=⟨aP h hB,fun i _ _ _ _ hi=>(h.block i (gLt hi)).trans hi,h.size⟩
def AnsK (B:Nat) (M:World→Int→Int→Prop) (w:World) (e:Ending) (w':World):Prop:=∃er n,e=.returned (.agg #[.int .i64 er,.int .i64 n])∧M w' er n∧aT B w w'
theorem aQn (B mb f i:Nat) (c:Cmd) (hi:fP i=some c.k) (hfi:fnOf (i-1)=some f) (hi40:i<40) (he2:Ent f) (M:World→Int→Int→Prop) (w:World)
 (hM:∀(w:World) (b:Nat) (cs:Array Value) (er n:Int) (v:Value) (k:Nat),w.heap[b]?=some (.cells cs 38 (0,0))→M w er n→M (w.setCell ⟨b,k,none⟩ v) er n)
 (hf:∀W,Below w.heap.size w W→Calls prog f #[dY mb,c.val] W (AnsK B M W)) (hBB:B≤w.heap.size):
 Calls prog 9 #[dY mb,c.val] w (AnsK B M w):=by
 have he:∀args W,(callFunc f args).run prog W=.ok (.enter f args) W:=he2
 have HF:=Hd hf
 have HM:=Hd hM
 obtain⟨k,s,t,n0,n1,n2,n3,n4⟩:=c
 clear hf he2 hM
 show Calls prog 9 #[.pointer (some ⟨mb,0,none⟩),.agg #[.int .i64 k,.string s,.string t,.int .i64 n0,.int .i64 n1,.int .i64 n2,.int .i64 n3,.int .i64 n4]] w _
 go_enter func9,ntmps9
 go_wp2_with fail
 obtain⟨W0,hW0⟩:∃W0,W0=(w.alloc (.cells (Cmd.arr ⟨k,s,t,n0,n1,n2,n3,n4⟩) 42)).alloc (.cells #[.int .i64 0,.int .i64 0] 38):=⟨_,rfl⟩
 have hb0:Below w.heap.size w W0:=by rw[hW0];exact aB (aB bR _) _
 have hsz:W0.heap.size=w.heap.size+2:=by rw[hW0];simp
 have hcell:∀j,W0.cell? ⟨w.heap.size,j,none⟩=(Cmd.arr ⟨k,s,t,n0,n1,n2,n3,n4⟩)[j]?:=fun j=>by
  rw[hW0]
  exact(cI (aB bR _) (by simp)).trans (aS w _ 42 j)
 have hres:∀j,W0.cell? ⟨w.heap.size+1,j,none⟩=(#[.int .i64 0,.int .i64 0]:Array Value)[j]?:=fun j=>by
  rw[hW0]
  have:=aS (w.alloc (.cells (Cmd.arr ⟨k,s,t,n0,n1,n2,n3,n4⟩) 42)) #[.int .i64 0,.int .i64 0] 38 j
  rw[show(w.alloc (.cells (Cmd.arr ⟨k,s,t,n0,n1,n2,n3,n4⟩) 42)).heap.size=w.heap.size+1 by simp] at this
  exact this
 have hrow:W0.heap[w.heap.size+1]?=some (.cells #[.int .i64 0,.int .i64 0] 38 (0,0)):=by
  rw[hW0]
  have:=heap_alloc_new (w.alloc (.cells (Cmd.arr ⟨k,s,t,n0,n1,n2,n3,n4⟩) 42)) (.cells #[.int .i64 0,.int .i64 0] 38)
  rw[show(w.alloc (.cells (Cmd.arr ⟨k,s,t,n0,n1,n2,n3,n4⟩) 42)).heap.size=w.heap.size+1 by simp] at this
  exact this
 change Code.wp _ _ _ _ ((w.alloc (.cells (Cmd.arr ⟨k,s,t,n0,n1,n2,n3,n4⟩) 42)).alloc (.cells #[.int .i64 0,.int .i64 0] 38))
 rw[←hW0]
 clear hW0
 refine wp_region_any (by kernel_rfl) ?_
 change wpAny prog .any lP _ 40 (Array.replicate 40 false) _ W0.drew
 refine aLh (mb:=mb) (b1:=w.heap.size) (κ:=k) (fv:=pI f mb) ⟨rfl,rfl,fun W hW=>?_,fun j g hj hg=>?_,⟨i,hi40,hi,by rw[hfi];rfl⟩,fun W g=>aD5 mb g W⟩ rfl rfl ?_
 ·have hW':Below W0.heap.size W0 W:=⟨hW.os,hW.tape,hW.output,hW.size,hW.block⟩
  have hc:W.cell? ⟨w.heap.size,0,none⟩=some (.int .i64 k):=(cI hW' (by rw[hsz];show w.heap.size<_;omega)).trans (hcell 0)
  unfold dY
  go_simp
 ·have:=fM _ _ _ hi hj
  subst this
  rw[hfi] at hg
  cases hg
  rfl
 intro a W hts hdf e0 e3 e4 e5 e6 hB
 obtain⟨tm,df⟩:=a
 obtain rfl:df=[]:=hdf
 obtain⟨u0,u1,u2,u3,u4,u5,u6,u7,u8,u9,u10,u11,u12,u13,u14,u15,u16,u17,u18,u19,u20,u21,u22,u23,u24,u25,u26,u27,u28,u29,u30,u31,u32,u33,u34,u35,u36,u37,u38,u39,u40,u41,u42,u43,rfl⟩:=aSb tm hts
 obtain rfl:u0=dY mb:=e0
 obtain rfl:u3=dY w.heap.size:=e3
 obtain rfl:u4=dY (w.heap.size+1):=e4
 obtain rfl:u5=pI f mb:=e5
 obtain rfl:u6=.bool true:=e6
 clear hts
 have hB':Below W0.heap.size W0 W:=⟨hB.os,hB.tape,hB.output,hB.size,hB.block⟩
 have c0:W.cell? ⟨w.heap.size,0,none⟩=some (.int .i64 k):=(cI hB' (by rw[hsz];show w.heap.size<_;omega)).trans (hcell 0)
 have c1:W.cell? ⟨w.heap.size,1,none⟩=some (.string s):=(cI hB' (by rw[hsz];show w.heap.size<_;omega)).trans (hcell 1)
 have c2:W.cell? ⟨w.heap.size,2,none⟩=some (.string t):=(cI hB' (by rw[hsz];show w.heap.size<_;omega)).trans (hcell 2)
 have c3:W.cell? ⟨w.heap.size,3,none⟩=some (.int .i64 n0):=(cI hB' (by rw[hsz];show w.heap.size<_;omega)).trans (hcell 3)
 have c4:W.cell? ⟨w.heap.size,4,none⟩=some (.int .i64 n1):=(cI hB' (by rw[hsz];show w.heap.size<_;omega)).trans (hcell 4)
 have c5:W.cell? ⟨w.heap.size,5,none⟩=some (.int .i64 n2):=(cI hB' (by rw[hsz];show w.heap.size<_;omega)).trans (hcell 5)
 have c6:W.cell? ⟨w.heap.size,6,none⟩=some (.int .i64 n3):=(cI hB' (by rw[hsz];show w.heap.size<_;omega)).trans (hcell 6)
 have c7:W.cell? ⟨w.heap.size,7,none⟩=some (.int .i64 n4):=(cI hB' (by rw[hsz];show w.heap.size<_;omega)).trans (hcell 7)
 have r0:W.cell? ⟨w.heap.size+1,0,none⟩=some (.int .i64 0):=(cI hB' (by rw[hsz];show w.heap.size+1<_;omega)).trans (hres 0)
 have r1:W.cell? ⟨w.heap.size+1,1,none⟩=some (.int .i64 0):=(cI hB' (by rw[hsz];show w.heap.size+1<_;omega)).trans (hres 1)
 have hBW:Below w.heap.size w W:=bF hb0 hb0.size hB'
 have hblk:W.heap[w.heap.size+1]?=some (.cells #[.int .i64 0,.int .i64 0] 38 (0,0)):=(hB'.block _ (by omega)).trans hrow
 unfold pI dY
 go_wp2_with fail
 refine(HF.out W hBW).mono ?_
 rintro e w2 ⟨er,n,rfl,hm,hfr⟩
 have hltW:w.heap.size+1<W.heap.size:=by have:=hB'.size;omega
 have hblk2:w2.heap[w.heap.size+1]?=some (.cells #[.int .i64 0,.int .i64 0] 38 (0,0)):=hfr.other _ _ _ _ (by decide) hblk
 have q0:w2.cell? ⟨w.heap.size+1,0,none⟩=some (.int .i64 0):=cell_of_row _ _ 0 _ 38 (0,0) hblk2
 have q1:w2.cell? ⟨w.heap.size+1,1,none⟩=some (.int .i64 0):=cell_of_row _ _ 1 _ 38 (0,0) hblk2
 have f0:w2.frozen? ⟨w.heap.size+1,0,none⟩=false:=frozen_of_row _ _ 0 _ 38 hblk2
 have f1:w2.frozen? ⟨w.heap.size+1,1,none⟩=false:=frozen_of_row _ _ 1 _ 38 hblk2
 have hm2:=Hd hm
 have hfr2:=Hd hfr
 have hb2:=Hd hblk2
 clear hm hfr hblk2
 go_wp2_with fail
 have hlt2:w.heap.size+1<w2.heap.size:=by have:=hfr2.out.size;omega
 have s1:=aE w2 (w.heap.size+1) 0 _ 38 (.int .i64 er) hb2.out
 refine bodyPost_ret (v:=.agg #[.int .i64 er,.int .i64 n]) (by simp[results,results9,go_sem,q0,q1]) rfl ⟨er,n,rfl,?_,?_⟩
 ·exact HM.out _ _ _ er n _ 1 s1 (HM.out _ _ _ er n _ 0 hb2.out hm2.out)
 ·have k2:=aT.trans (aT.ofB hBB hBW) hfr2.out
  refine⟨aH (aH k2.below (p:=⟨w.heap.size+1,0,none⟩) (by dsimp only;omega) _) (p:=⟨w.heap.size+1,1,none⟩) (by dsimp only;omega) _,fun i cs t fz ht hi=>?_,by have:=k2.size;simpa[World.setCell] using this⟩
  have hil:=(gLt hi)
  exact(aG _ ⟨w.heap.size+1,1,none⟩ _ i (by dsimp only;omega)).trans ((aG _ ⟨w.heap.size+1,0,none⟩ _ i (by dsimp only;omega)).trans (k2.other i cs t fz ht hi))
theorem aCh (K:Nat):qI K≤3:=by unfold qI;(repeat' split) <;> omega
theorem fK {i m:Nat} (h:i<m):m-(intOf (.int .i64 ((i+1:Nat):Int))).toNat<m-(intOf (.int .i64 (i:Int))).toNat:=by simp[intOf];omega
theorem aCd {a b:Nat} (h:a≠b):(a:Int)≠(b:Int):=fun e=>h (Int.ofNat.inj e)
theorem aRe {α:Type} {l:List α} (h:l.length=2):∃a b,l=[a,b]:=by
 match l,h with
 |[a,b],_=>exact⟨a,b,rfl⟩
theorem aRd {α:Type} {l:List α} (h:l.length=3):∃a b c,l=[a,b,c]:=by
 match l,h with
 |[a,b,c],_=>exact⟨a,b,c,rfl⟩
def vM (d K:Nat) (xs:List Ex):Prop:=(1≤K∧K≤10)∧xs.length=qI K∧∀j x,xs[j]?=some x→Gen d (decide (K=10)&&decide (j=0)) x
theorem gen3 {d k:Nat} {xs:List Ex} (h:vM d 3 xs) (hk:k<60):Gen (d+1) false (.node ((3:Nat):Int) 0 (aK k) xs):=by
 obtain rfl:xs=[]:=List.eq_nil_of_length_eq_zero (h.2.1.trans rfl)
 exact Gen.frm d k hk
theorem gen4 {d k:Nat} {xs:List Ex} (h:vM d 4 xs) (hk:k<3000):Gen (d+1) false (.node ((4:Nat):Int) k ⟨#[]⟩ xs):=by
 obtain rfl:xs=[]:=List.eq_nil_of_length_eq_zero (h.2.1.trans rfl)
 exact Gen.fix d k hk
theorem gen5 {d k:Nat} {xs:List Ex} (h:vM d 5 xs) (hk:k<3000):Gen (d+1) false (.node ((5:Nat):Int) k ⟨#[]⟩ xs):=by
 obtain⟨x,rfl⟩:=List.length_eq_one_iff.1 (h.2.1.trans rfl)
 exact Gen.less d k hk x (h.2.2 0 x rfl)
theorem gen6 {d k:Nat} {xs:List Ex} (h:vM d 6 xs) (hk:k<12000):Gen (d+1) false (.node ((6:Nat):Int) k ⟨#[]⟩ xs):=by
 obtain⟨x,rfl⟩:=List.length_eq_one_iff.1 (h.2.1.trans rfl)
 exact Gen.cut d k hk x (h.2.2 0 x rfl)
theorem genE {d K:Nat} {xs:List Ex} (h:vM d K xs∧K≠3∧K≠4∧K≠5∧K≠6):Gen (d+1) false (.node (K:Int) 0 ⟨#[]⟩ xs):=by
 obtain⟨⟨⟨h1,h2⟩,hl,hg⟩,n3,n4,n5,n6⟩:=h
 have hc:K=1∨K=2∨K=7∨K=8∨K=9∨K=10:=by omega
 rcases hc with rfl|rfl|rfl|rfl|rfl|rfl
 ·obtain rfl:xs=[]:=List.eq_nil_of_length_eq_zero (hl.trans rfl)
  exact Gen.low d
 ·obtain rfl:xs=[]:=List.eq_nil_of_length_eq_zero (hl.trans rfl)
  exact Gen.sec d
 all_goals first
  |(obtain⟨c,x,y,rfl⟩:=aRd (hl.trans rfl)
    exact Gen.iff d c x y (hg 0 c rfl) (hg 1 x rfl) (hg 2 y rfl))
  |(obtain⟨x,y,rfl⟩:=aRe (hl.trans rfl)
    exact Gen.two d _ (by decide) x y (hg 0 x rfl) (hg 1 y rfl))
set_option linter.unusedSimpArgs false in
theorem aEw (d:Nat) (hd:1≤d) (D:Int) (hD:D=d+1) (hd9:d≤9) (IH:HExp d) (sb B:Nat) (w:World) (h:Src sb B w):Calls prog 56 #[.pointer (some ⟨sb,0,none⟩),.int .i64 D,.bool false] w (eV sb B (d+1) false w):=by
 have HN10:Hid (∀W,Src sb B W→Calls prog 117 #[.pointer (some ⟨sb,0,none⟩),.int .i64 10] W fun e w'=>∃k:Nat,e=.returned (.int .i64 (k:Int))∧k<10∧aQ sb B W w'):=Hd (fun W hW=>fG sb B 10 (by decide) W hW)
 have HN60:Hid (∀W,Src sb B W→Calls prog 117 #[.pointer (some ⟨sb,0,none⟩),.int .i64 60] W fun e w'=>∃k:Nat,e=.returned (.int .i64 (k:Int))∧k<60∧aQ sb B W w'):=Hd (fun W hW=>fG sb B 60 (by decide) W hW)
 have HN3000:Hid (∀W,Src sb B W→Calls prog 117 #[.pointer (some ⟨sb,0,none⟩),.int .i64 3000] W fun e w'=>∃k:Nat,e=.returned (.int .i64 (k:Int))∧k<3000∧aQ sb B W w'):=Hd (fun W hW=>fG sb B 3000 (by decide) W hW)
 have HN12000:Hid (∀W,Src sb B W→Calls prog 117 #[.pointer (some ⟨sb,0,none⟩),.int .i64 12000] W fun e w'=>∃k:Nat,e=.returned (.int .i64 (k:Int))∧k<12000∧aQ sb B W w'):=Hd (fun W hW=>fG sb B 12000 (by decide) W hW)
 have HSE:Hid (∀(k:Nat) W,k<60→Calls prog 20 #[.int .i64 (k:Int)] W (Ret (.string (aK k)) W)):=Hd (fun k W hk=>lV k hk k ⟨by omega,by omega⟩ (by unfold dG;rw[if_neg (by omega)];omega) W)
 have hz:wrap64 (D-1)=(d:Int):=by rw[Mem.w64 (by omega) (by omega)];omega
 have hz':IntKind.i64.wrap (D-1)=(d:Int):=by rw[IntWalk.i64_in _ ⟨by omega,by omega⟩];omega
 have hlt2:¬D<2:=by omega
 have HE:Hid (∀(c:Bool) W,Src sb B W→Calls prog 56 #[.pointer (some ⟨sb,0,none⟩),.int .i64 (d:Int),.bool c] W (eV sb B d c W)):=Hd (fun c W hW=>IH c sb B W hW)
 have HS:=Hd h
 have HB:=Hd h.le
 have HSB:Hid (sb<w.heap.size):=Hd (by have:=h.lt;have:=h.le;omega)
 have HNE:Hid (w.heap.size≠sb):=Hd (by have:=HSB.out;omega)
 obtain⟨i0,hi,iz,isz,iby⟩:=info_parts zV
 clear h hD hd IH hd9
 go_enter func56,ntmps56
 go_wp2_with fail
 refine(HN10.out _ (HS.out.below blw)).mono ?_
 rintro e W1 ⟨k,rfl,hk,hd1⟩
 have hr:=hd1.row (b:=w.heap.size) (aN w _) HNE.out
 have HD1:Hid (aQ sb B w W1):=Hd (((aQ.refl HS.out).alloc _).trans hd1)
 have HR1:Hid (W1.heap[w.heap.size]?=some (.cells z51 51 (0,0))):=Hd hr
 have hz1:wrap64 (1+(k:Int))=((k+1:Nat):Int):=by rw[Mem.w64 (by omega) (by omega)];omega
 obtain⟨K,hK⟩:∃K,K=k+1:=⟨_,rfl⟩
 rw[←hK] at hz1
 have HK:Hid (1≤K∧K≤10):=Hd (by omega)
 have HXw:Hid (w.heap.size<W1.heap.size):=Hd (gLt hr)
 clear hr hd1 hK hk
 go_wp2_with fail
 have HAR:Hid (∀W,Calls prog 118 #[.int .i64 (K:Int)] W fun e w'=>e=.returned (.int .i64 (qI K:Nat))∧W=w'):=Hd (fun W=>pC K (by have:=HK.out;omega) W)
 obtain⟨m,hm⟩:∃m,qI K=m:=⟨_,rfl⟩
 rw[hm] at HAR
 have HM:Hid (qI K=m):=Hd hm
 have HM3:Hid (m≤3):=Hd (by rw[←hm];exact aCh K)
 have HA0:Hid (Argd w.heap.size W1.heap.size sb B d K 0 w (W1.alloc (.cells #[.int .i64 (K:Int),.int .i64 0,.string ⟨#[]⟩,.slice none 0 0] 51))):=Hd ⟨⟨none,0,[],[],aN _ _,rfl,En.Own.none_ _ _ _,⟨rfl,fun j x v h=>by cases h⟩,fun j x h=>by cases h⟩,(Below.heap_alloc _ _ _ HXw.out).trans HR1.out,HD1.out.alloc _⟩
 clear hm
 rw[hz1]
 go_loopw [9] (fun iv wr=>∃i:Nat,i≤m∧iv=.int .i64 i∧Hid (Argd w.heap.size W1.heap.size sb B d K i w wr)) (fun iv _=>m-(intOf iv).toNat)
 case atStart=>exact⟨0,Nat.zero_le _,rfl,HA0⟩
 case round=>
  obtain⟨i,him,rfl,HA⟩:=hrel
  by_cases hlt:i<m
  ·have HLT:=Hd hlt
   obtain⟨A,c,xs,vs,hbox,hlen,hown,htr,hgn⟩:=HA.out.ex
   have p3:wr.cell? ⟨W1.heap.size,3,none⟩=some (.slice A i c):=aA hbox 3
   have pf:∀o,wr.frozen? ⟨W1.heap.size,o,none⟩=false:=fun o=>fH hbox o
   have pl:=(gLt hbox)
   have hvl:vs.length=i:=htr.1.symm.trans hlen
   have HOX:=Hd hbox
   have HOW:=Hd hown
   have HTR:=Hd htr
   have HGN:=Hd hgn
   have HLN:=Hd hlen
   have HVL:=Hd hvl
   have zlt:(i:Int)<(m:Int):=by omega
   have HXN:Hid (W1.heap.size≠sb):=Hd (by have:=HSB.out;have:=HXw.out;omega)
   have HSX:Hid (sb<W1.heap.size+1):=Hd (by have:=HSB.out;have:=HXw.out;omega)
   have H63:Hid (vs.length+1≤9223372036854775807):=Hd (by have:=HM3.out;omega)
   have HBYT:Hid ((vs.length+1) * 56≤140737488355328):=Hd (by have:=HM3.out;omega)
   have hzi:wrap64 ((i:Int)+1)=((i+1:Nat):Int):=by rw[Mem.w64 (by omega) (by have:=HM3.out;omega)];omega
   clear hbox hown htr hgn hlen hvl hlt
   by_cases hk:K=10
   ·have HK10:Hid ((K:Int)=10):=Hd (by rw[hk];rfl)
    have HK10n:=Hd hk
    by_cases h0:i=0
    ·have HI0:Hid ((i:Int)=0):=Hd (by rw[h0];rfl)
     have HI0n:=Hd h0
     have HCD:Hid ((decide (K=10)&&decide (i=0))=true):=Hd (by simp[hk,h0])
     clear hk h0
     go_wp2_with (first
      |(go_at_call 118;go_must (refine(HAR.out _).mono ?_;rintro e w' ⟨rfl,rfl⟩)))
     have zk:((K:Int)==10)=true:=by rw[HK10.out];rfl
     have zk2:decide ((K:Int)=10)=true:=decide_eq_true HK10.out
     have zk3:decide (K=10)=true:=decide_eq_true HK10n.out
     have zi:((i:Int)==0)=true:=by rw[HI0.out];rfl
     have zi2:decide ((i:Int)=0)=true:=decide_eq_true HI0.out
     have zi3:decide (i=0)=true:=decide_eq_true HI0n.out
     refine wp_region_any (by kernel_rfl) ?_
     change wpAny _ _ _ _ _ _ _ (World.drew _)
     refine wpAny_take (i:=0) (v:=?_) rfl (by kernel_rfl) (by kernel_rfl) (by kernel_rfl) (fun _ _ _ h=>h) (Or.inl ⟨by rfl,?_⟩) ?_
     rotate_left
     ·intro w;go_simp;try with_reducible rfl
     simp only[Act.put,gs]
     refine wpAny_take (i:=2) (v:=?_) rfl (by kernel_rfl) (by kernel_rfl) (by kernel_rfl) (fun _ _ _ h=>h) (Or.inl ⟨by rfl,?_⟩) ?_
     rotate_left
     ·intro w;go_simp;try with_reducible rfl
     simp only[Act.put,gs]
     refine wpAny_take (i:=3) (v:=?_) rfl (by kernel_rfl) (by kernel_rfl) (by kernel_rfl) (fun _ _ _ h=>h) (Or.inl ⟨by rfl,?_⟩) ?_
     rotate_left
     ·intro w;go_simp;try with_reducible rfl
     simp only[Act.put,gs]
     refine wpAny_take (i:=4) (v:=?_) rfl (by kernel_rfl) (by kernel_rfl) (by kernel_rfl) (fun _ _ _ h=>h) (Or.inl ⟨by rfl,?_⟩) ?_
     rotate_left
     ·intro w;go_simp;try with_reducible rfl
     simp only[Act.put,gs]
     refine wpAny_take (i:=5) (v:=?_) rfl (by kernel_rfl) (by kernel_rfl) (by kernel_rfl) (fun _ _ _ h=>h) (Or.inl ⟨by rfl,?_⟩) ?_
     rotate_left
     ·intro w;go_simp;try with_reducible rfl
     simp only[Act.put,gs]
     refine wpAny_take (i:=6) (v:=?_) rfl (by kernel_rfl) (by kernel_rfl) (by kernel_rfl) (fun _ _ _ h=>h) (Or.inl ⟨by rfl,?_⟩) ?_
     rotate_left
     ·intro w;go_simp;try with_reducible rfl
     simp only[Act.put,gs]
     refine wpAny_take (i:=7) (v:=?_) rfl (by kernel_rfl) (by kernel_rfl) (by kernel_rfl) (fun _ _ _ h=>h) (Or.inl ⟨by rfl,?_⟩) ?_
     rotate_left
     ·intro w;go_simp;try with_reducible rfl
     simp only[Act.put,gs]
     refine wpAny_take (i:=8) (v:=?_) rfl (by kernel_rfl) (by kernel_rfl) (by kernel_rfl) (fun _ _ _ h=>h) (Or.inl ⟨by rfl,?_⟩) ?_
     rotate_left
     ·intro w;go_simp;try with_reducible rfl
     simp only[Act.put,gs]
     refine wpAny_take (i:=9) (v:=?_) rfl (by kernel_rfl) (by kernel_rfl) (by kernel_rfl) (fun _ _ _ h=>h) (Or.inl ⟨by rfl,?_⟩) ?_
     rotate_left
     ·intro w;go_simp;try with_reducible rfl
     simp only[Act.put,gs]
     refine wpAny_take (i:=10) (v:=?_) rfl (by kernel_rfl) (by kernel_rfl) (by kernel_rfl) (fun _ _ _ h=>h) (Or.inl ⟨by rfl,?_⟩) ?_
     rotate_left
     ·intro w;go_simp;try with_reducible rfl
     simp only[Act.put,gs]
     refine wpAny_ready (rs:=[1,11]) (by kernel_rfl) (by simp) ?_
     refine AllReady.cons rfl (fun KK hKK=>?_) ?_
     ·go_simp
      (try(refine hKK _ _ ?_))
      (try clear hKK KK)
      (try simp only[Act.put,gs])
      refine wpAny_ready (rs:=[11]) (by kernel_rfl) (by simp) ?_
      refine AllReady.cons rfl (fun KK hKK=>?_) ?_
      ·go_simp
       go_wp2_with (go_at_call 56;go_must (refine(HE.out _ _ (HA.out.drawn.1.below blw)).mono ?_;rintro e W3 ⟨x,⟨xk,xn,xs',xA,xm,xc⟩,rfl,hx,gx,hd3⟩;have HX:Hid (bB (fun b=>wr.heap.size≤b) W3 x ⟨xk,xn,xs',xA,xm,xc⟩):=Hd hx;have HGX:=Hd gx;have hd4:aQ sb B wr W3:=(((aQ.refl HA.out.drawn.1).below blw).trans hd3);have hb3:=hd4.row HOX.out HXN.out;have s3:W3.cell? ⟨W1.heap.size,3,none⟩=some (.slice A i c):=aA hb3 3;have sl:=(gLt hb3);have HO3:=Hd (jC HOW.out hd4 HSX.out);have HD4:=Hd hd4;unfold EV.v;clear hx gx hd3 hd4 hb3))
       (try(refine hKK _ _ ?_))
       (try clear hKK KK)
       (try simp only[Act.put,gs])
       refine wpAny_ready (rs:=[12]) (by kernel_rfl) (by simp) ?_
       refine AllReady.cons rfl (fun KK hKK=>?_) ?_
       ·go_simp
        (try(refine hKK _ _ ?_))
        (try clear hKK KK)
        (try simp only[Act.put,gs])
        refine wpAny_ready (rs:=[13]) (by kernel_rfl) (by simp) ?_
        refine AllReady.cons rfl (fun KK hKK=>?_) ?_
        ·(refine cO dX _ (by rfl) _ _ _ (by rfl) (W1.heap.size+1) 51 i0 _ 56 underlying49 hi iz isz iby rfl A c _ vs (by rfl) HVL.out.symm ?_ _ _ _ [⟨xk,xn,xs',xA,xm,xc⟩] (by rfl) rfl ?_ ?_ ?_ ?_ ?_;(exact HO3.out.below blw);(first|exact jP W3 ⟨xk,xn,xs',xA,xm,xc⟩|exact(jP W3 ⟨xk,xn,xs',xA,xm,xc⟩).below blw);(exact H63.out);(exact HBYT.out);(exact Nat.le_trans (Nat.succ_le_of_lt sl) (show Below W3.heap.size W3 _ from blw).size);(intro A5 c5 w5 ho5 hgr hat;rw[HVL.out] at hgr hat;have hb5:=iA HOX.out HOW.out HVL.out HXN.out HD4.out blw hgr;have q3:w5.cell? ⟨W1.heap.size,3,none⟩=some (.slice A i c):=aA hb5 3;have qf:∀o,w5.frozen? ⟨W1.heap.size,o,none⟩=false:=fun o=>fH hb5 o;have ql:=(gLt hb5);have hln:(vs++[(⟨xk,xn,xs',xA,xm,xc⟩:EV)]).length=i+1:=(by rw[lA,HVL.out];rfl);rw[hln] at hat;have HST:=Hd (fO (K:=K) HXw.out (Nat.le_of_lt HXw.out) HSB.out HNE.out HB.out HOX.out HLN.out HOW.out HTR.out HGN.out HA.out.row HA.out.drawn bR HD4.out HX.out (by first|exact HGX.out|(rw[HCD.out];exact HGX.out)) blw hgr ho5 (hat.imp id (fun h=>h.trans (by simp))));rw[hln];clear ho5 hgr hat hb5 hln))
         (try(refine hKK _ _ ?_))
         (try clear hKK KK)
         (try simp only[Act.put,gs])
         refine wpAny_take (i:=14) (v:=?_) rfl (by kernel_rfl) (by kernel_rfl) (by kernel_rfl) (fun _ _ _ h=>h) (Or.inl ⟨by rfl,?_⟩) ?_
         rotate_left
         ·intro w;go_simp;try with_reducible rfl
         simp only[Act.put,gs]
         refine wpAny_ready (rs:=[15]) (by kernel_rfl) (by simp) ?_
         refine AllReady.cons rfl (fun KK hKK=>?_) ?_
         ·go_simp
          (try(refine hKK _ _ ?_))
          (try clear hKK KK)
          (try simp only[Act.put,gs])
          refine wpAny_done (by kernel_rfl) ?_ _
          go_wp2_with fail
          go_roundw
          case rel=>exact⟨i+1,HLT.out,(by first|rw[hzi]|rfl|simp),HST⟩
          case measure=>(try rw[hzi]);exact fK HLT.out
         exact AllReady.nil
        exact AllReady.nil
       exact AllReady.nil
      exact AllReady.nil
     refine AllReady.cons rfl (fun KK hKK=>?_) ?_
     ·go_simp
      go_wp2_with (go_at_call 56;go_must (refine(HE.out _ _ (HA.out.drawn.1.below blw)).mono ?_;rintro e W3 ⟨x,⟨xk,xn,xs',xA,xm,xc⟩,rfl,hx,gx,hd3⟩;have HX:Hid (bB (fun b=>wr.heap.size≤b) W3 x ⟨xk,xn,xs',xA,xm,xc⟩):=Hd hx;have HGX:=Hd gx;have hd4:aQ sb B wr W3:=(((aQ.refl HA.out.drawn.1).below blw).trans hd3);have hb3:=hd4.row HOX.out HXN.out;have s3:W3.cell? ⟨W1.heap.size,3,none⟩=some (.slice A i c):=aA hb3 3;have sl:=(gLt hb3);have HO3:=Hd (jC HOW.out hd4 HSX.out);have HD4:=Hd hd4;unfold EV.v;clear hx gx hd3 hd4 hb3))
      (try(refine hKK _ _ ?_))
      (try clear hKK KK)
      (try simp only[Act.put,gs])
      refine wpAny_ready (rs:=[1,12]) (by kernel_rfl) (by simp) ?_
      refine AllReady.cons rfl (fun KK hKK=>?_) ?_
      ·go_simp
       (try(refine hKK _ _ ?_))
       (try clear hKK KK)
       (try simp only[Act.put,gs])
       refine wpAny_ready (rs:=[12]) (by kernel_rfl) (by simp) ?_
       refine AllReady.cons rfl (fun KK hKK=>?_) ?_
       ·go_simp
        (try(refine hKK _ _ ?_))
        (try clear hKK KK)
        (try simp only[Act.put,gs])
        refine wpAny_ready (rs:=[13]) (by kernel_rfl) (by simp) ?_
        refine AllReady.cons rfl (fun KK hKK=>?_) ?_
        ·(refine cO dX _ (by rfl) _ _ _ (by rfl) (W1.heap.size+1) 51 i0 _ 56 underlying49 hi iz isz iby rfl A c _ vs (by rfl) HVL.out.symm ?_ _ _ _ [⟨xk,xn,xs',xA,xm,xc⟩] (by rfl) rfl ?_ ?_ ?_ ?_ ?_;(exact HO3.out.below blw);(first|exact jP W3 ⟨xk,xn,xs',xA,xm,xc⟩|exact(jP W3 ⟨xk,xn,xs',xA,xm,xc⟩).below blw);(exact H63.out);(exact HBYT.out);(exact Nat.le_trans (Nat.succ_le_of_lt sl) (show Below W3.heap.size W3 _ from blw).size);(intro A5 c5 w5 ho5 hgr hat;rw[HVL.out] at hgr hat;have hb5:=iA HOX.out HOW.out HVL.out HXN.out HD4.out blw hgr;have q3:w5.cell? ⟨W1.heap.size,3,none⟩=some (.slice A i c):=aA hb5 3;have qf:∀o,w5.frozen? ⟨W1.heap.size,o,none⟩=false:=fun o=>fH hb5 o;have ql:=(gLt hb5);have hln:(vs++[(⟨xk,xn,xs',xA,xm,xc⟩:EV)]).length=i+1:=(by rw[lA,HVL.out];rfl);rw[hln] at hat;have HST:=Hd (fO (K:=K) HXw.out (Nat.le_of_lt HXw.out) HSB.out HNE.out HB.out HOX.out HLN.out HOW.out HTR.out HGN.out HA.out.row HA.out.drawn bR HD4.out HX.out (by first|exact HGX.out|(rw[HCD.out];exact HGX.out)) blw hgr ho5 (hat.imp id (fun h=>h.trans (by simp))));rw[hln];clear ho5 hgr hat hb5 hln))
         (try(refine hKK _ _ ?_))
         (try clear hKK KK)
         (try simp only[Act.put,gs])
         refine wpAny_take (i:=14) (v:=?_) rfl (by kernel_rfl) (by kernel_rfl) (by kernel_rfl) (fun _ _ _ h=>h) (Or.inl ⟨by rfl,?_⟩) ?_
         rotate_left
         ·intro w;go_simp;try with_reducible rfl
         simp only[Act.put,gs]
         refine wpAny_ready (rs:=[15]) (by kernel_rfl) (by simp) ?_
         refine AllReady.cons rfl (fun KK hKK=>?_) ?_
         ·go_simp
          (try(refine hKK _ _ ?_))
          (try clear hKK KK)
          (try simp only[Act.put,gs])
          refine wpAny_done (by kernel_rfl) ?_ _
          go_wp2_with fail
          go_roundw
          case rel=>exact⟨i+1,HLT.out,(by first|rw[hzi]|rfl|simp),HST⟩
          case measure=>(try rw[hzi]);exact fK HLT.out
         exact AllReady.nil
        exact AllReady.nil
       exact AllReady.nil
      refine AllReady.cons rfl (fun KK hKK=>?_) ?_
      ·go_simp
       (try(refine hKK _ _ ?_))
       (try clear hKK KK)
       (try simp only[Act.put,gs])
       refine wpAny_ready (rs:=[1]) (by kernel_rfl) (by simp) ?_
       refine AllReady.cons rfl (fun KK hKK=>?_) ?_
       ·go_simp
        (try(refine hKK _ _ ?_))
        (try clear hKK KK)
        (try simp only[Act.put,gs])
        refine wpAny_ready (rs:=[13]) (by kernel_rfl) (by simp) ?_
        refine AllReady.cons rfl (fun KK hKK=>?_) ?_
        ·(refine cO dX _ (by rfl) _ _ _ (by rfl) (W1.heap.size+1) 51 i0 _ 56 underlying49 hi iz isz iby rfl A c _ vs (by rfl) HVL.out.symm ?_ _ _ _ [⟨xk,xn,xs',xA,xm,xc⟩] (by rfl) rfl ?_ ?_ ?_ ?_ ?_;(exact HO3.out.below blw);(first|exact jP W3 ⟨xk,xn,xs',xA,xm,xc⟩|exact(jP W3 ⟨xk,xn,xs',xA,xm,xc⟩).below blw);(exact H63.out);(exact HBYT.out);(exact Nat.le_trans (Nat.succ_le_of_lt sl) (show Below W3.heap.size W3 _ from blw).size);(intro A5 c5 w5 ho5 hgr hat;rw[HVL.out] at hgr hat;have hb5:=iA HOX.out HOW.out HVL.out HXN.out HD4.out blw hgr;have q3:w5.cell? ⟨W1.heap.size,3,none⟩=some (.slice A i c):=aA hb5 3;have qf:∀o,w5.frozen? ⟨W1.heap.size,o,none⟩=false:=fun o=>fH hb5 o;have ql:=(gLt hb5);have hln:(vs++[(⟨xk,xn,xs',xA,xm,xc⟩:EV)]).length=i+1:=(by rw[lA,HVL.out];rfl);rw[hln] at hat;have HST:=Hd (fO (K:=K) HXw.out (Nat.le_of_lt HXw.out) HSB.out HNE.out HB.out HOX.out HLN.out HOW.out HTR.out HGN.out HA.out.row HA.out.drawn bR HD4.out HX.out (by first|exact HGX.out|(rw[HCD.out];exact HGX.out)) blw hgr ho5 (hat.imp id (fun h=>h.trans (by simp))));rw[hln];clear ho5 hgr hat hb5 hln))
         (try(refine hKK _ _ ?_))
         (try clear hKK KK)
         (try simp only[Act.put,gs])
         refine wpAny_take (i:=14) (v:=?_) rfl (by kernel_rfl) (by kernel_rfl) (by kernel_rfl) (fun _ _ _ h=>h) (Or.inl ⟨by rfl,?_⟩) ?_
         rotate_left
         ·intro w;go_simp;try with_reducible rfl
         simp only[Act.put,gs]
         refine wpAny_ready (rs:=[15]) (by kernel_rfl) (by simp) ?_
         refine AllReady.cons rfl (fun KK hKK=>?_) ?_
         ·go_simp
          (try(refine hKK _ _ ?_))
          (try clear hKK KK)
          (try simp only[Act.put,gs])
          refine wpAny_done (by kernel_rfl) ?_ _
          go_wp2_with fail
          go_roundw
          case rel=>exact⟨i+1,HLT.out,(by first|rw[hzi]|rfl|simp),HST⟩
          case measure=>(try rw[hzi]);exact fK HLT.out
         exact AllReady.nil
        exact AllReady.nil
       exact AllReady.nil
      exact AllReady.nil
     exact AllReady.nil
    ·have HI0:Hid ((i:Int)≠0):=Hd (aCd h0)
     have HI0n:=Hd h0
     have HCD:Hid ((decide (K=10)&&decide (i=0))=false):=Hd (by simp[h0])
     clear hk h0
     go_wp2_with (first
      |(go_at_call 118;go_must (refine(HAR.out _).mono ?_;rintro e w' ⟨rfl,rfl⟩)))
     have zk:((K:Int)==10)=true:=by rw[HK10.out];rfl
     have zk2:decide ((K:Int)=10)=true:=decide_eq_true HK10.out
     have zk3:decide (K=10)=true:=decide_eq_true HK10n.out
     have zi:((i:Int)==0)=false:=bN HI0.out
     have zi2:decide ((i:Int)=0)=false:=decide_eq_false HI0.out
     have zi3:decide (i=0)=false:=decide_eq_false HI0n.out
     refine wp_region_any (by kernel_rfl) ?_
     change wpAny _ _ _ _ _ _ _ (World.drew _)
     refine wpAny_take (i:=0) (v:=?_) rfl (by kernel_rfl) (by kernel_rfl) (by kernel_rfl) (fun _ _ _ h=>h) (Or.inl ⟨by rfl,?_⟩) ?_
     rotate_left
     ·intro w;go_simp;try with_reducible rfl
     simp only[Act.put,gs]
     refine wpAny_take (i:=2) (v:=?_) rfl (by kernel_rfl) (by kernel_rfl) (by kernel_rfl) (fun _ _ _ h=>h) (Or.inl ⟨by rfl,?_⟩) ?_
     rotate_left
     ·intro w;go_simp;try with_reducible rfl
     simp only[Act.put,gs]
     refine wpAny_take (i:=3) (v:=?_) rfl (by kernel_rfl) (by kernel_rfl) (by kernel_rfl) (fun _ _ _ h=>h) (Or.inl ⟨by rfl,?_⟩) ?_
     rotate_left
     ·intro w;go_simp;try with_reducible rfl
     simp only[Act.put,gs]
     refine wpAny_take (i:=4) (v:=?_) rfl (by kernel_rfl) (by kernel_rfl) (by kernel_rfl) (fun _ _ _ h=>h) (Or.inl ⟨by rfl,?_⟩) ?_
     rotate_left
     ·intro w;go_simp;try with_reducible rfl
     simp only[Act.put,gs]
     refine wpAny_take (i:=5) (v:=?_) rfl (by kernel_rfl) (by kernel_rfl) (by kernel_rfl) (fun _ _ _ h=>h) (Or.inl ⟨by rfl,?_⟩) ?_
     rotate_left
     ·intro w;go_simp;try with_reducible rfl
     simp only[Act.put,gs]
     refine wpAny_take (i:=6) (v:=?_) rfl (by kernel_rfl) (by kernel_rfl) (by kernel_rfl) (fun _ _ _ h=>h) (Or.inl ⟨by rfl,?_⟩) ?_
     rotate_left
     ·intro w;go_simp;try with_reducible rfl
     simp only[Act.put,gs]
     refine wpAny_take (i:=7) (v:=?_) rfl (by kernel_rfl) (by kernel_rfl) (by kernel_rfl) (fun _ _ _ h=>h) (Or.inl ⟨by rfl,?_⟩) ?_
     rotate_left
     ·intro w;go_simp;try with_reducible rfl
     simp only[Act.put,gs]
     refine wpAny_take (i:=8) (v:=?_) rfl (by kernel_rfl) (by kernel_rfl) (by kernel_rfl) (fun _ _ _ h=>h) (Or.inl ⟨by rfl,?_⟩) ?_
     rotate_left
     ·intro w;go_simp;try with_reducible rfl
     simp only[Act.put,gs]
     refine wpAny_take (i:=9) (v:=?_) rfl (by kernel_rfl) (by kernel_rfl) (by kernel_rfl) (fun _ _ _ h=>h) (Or.inl ⟨by rfl,?_⟩) ?_
     rotate_left
     ·intro w;go_simp;try with_reducible rfl
     simp only[Act.put,gs]
     refine wpAny_take (i:=10) (v:=?_) rfl (by kernel_rfl) (by kernel_rfl) (by kernel_rfl) (fun _ _ _ h=>h) (Or.inl ⟨by rfl,?_⟩) ?_
     rotate_left
     ·intro w;go_simp;try with_reducible rfl
     simp only[Act.put,gs]
     refine wpAny_ready (rs:=[1,11]) (by kernel_rfl) (by simp) ?_
     refine AllReady.cons rfl (fun KK hKK=>?_) ?_
     ·go_simp
      (try(refine hKK _ _ ?_))
      (try clear hKK KK)
      (try simp only[Act.put,gs])
      refine wpAny_ready (rs:=[11]) (by kernel_rfl) (by simp) ?_
      refine AllReady.cons rfl (fun KK hKK=>?_) ?_
      ·go_simp
       go_wp2_with (go_at_call 56;go_must (refine(HE.out _ _ (HA.out.drawn.1.below blw)).mono ?_;rintro e W3 ⟨x,⟨xk,xn,xs',xA,xm,xc⟩,rfl,hx,gx,hd3⟩;have HX:Hid (bB (fun b=>wr.heap.size≤b) W3 x ⟨xk,xn,xs',xA,xm,xc⟩):=Hd hx;have HGX:=Hd gx;have hd4:aQ sb B wr W3:=(((aQ.refl HA.out.drawn.1).below blw).trans hd3);have hb3:=hd4.row HOX.out HXN.out;have s3:W3.cell? ⟨W1.heap.size,3,none⟩=some (.slice A i c):=aA hb3 3;have sl:=(gLt hb3);have HO3:=Hd (jC HOW.out hd4 HSX.out);have HD4:=Hd hd4;unfold EV.v;clear hx gx hd3 hd4 hb3))
       (try(refine hKK _ _ ?_))
       (try clear hKK KK)
       (try simp only[Act.put,gs])
       refine wpAny_ready (rs:=[12]) (by kernel_rfl) (by simp) ?_
       refine AllReady.cons rfl (fun KK hKK=>?_) ?_
       ·go_simp
        (try(refine hKK _ _ ?_))
        (try clear hKK KK)
        (try simp only[Act.put,gs])
        refine wpAny_ready (rs:=[13]) (by kernel_rfl) (by simp) ?_
        refine AllReady.cons rfl (fun KK hKK=>?_) ?_
        ·(refine cO dX _ (by rfl) _ _ _ (by rfl) (W1.heap.size+1) 51 i0 _ 56 underlying49 hi iz isz iby rfl A c _ vs (by rfl) HVL.out.symm ?_ _ _ _ [⟨xk,xn,xs',xA,xm,xc⟩] (by rfl) rfl ?_ ?_ ?_ ?_ ?_;(exact HO3.out.below blw);(first|exact jP W3 ⟨xk,xn,xs',xA,xm,xc⟩|exact(jP W3 ⟨xk,xn,xs',xA,xm,xc⟩).below blw);(exact H63.out);(exact HBYT.out);(exact Nat.le_trans (Nat.succ_le_of_lt sl) (show Below W3.heap.size W3 _ from blw).size);(intro A5 c5 w5 ho5 hgr hat;rw[HVL.out] at hgr hat;have hb5:=iA HOX.out HOW.out HVL.out HXN.out HD4.out blw hgr;have q3:w5.cell? ⟨W1.heap.size,3,none⟩=some (.slice A i c):=aA hb5 3;have qf:∀o,w5.frozen? ⟨W1.heap.size,o,none⟩=false:=fun o=>fH hb5 o;have ql:=(gLt hb5);have hln:(vs++[(⟨xk,xn,xs',xA,xm,xc⟩:EV)]).length=i+1:=(by rw[lA,HVL.out];rfl);rw[hln] at hat;have HST:=Hd (fO (K:=K) HXw.out (Nat.le_of_lt HXw.out) HSB.out HNE.out HB.out HOX.out HLN.out HOW.out HTR.out HGN.out HA.out.row HA.out.drawn bR HD4.out HX.out (by first|exact HGX.out|(rw[HCD.out];exact HGX.out)) blw hgr ho5 (hat.imp id (fun h=>h.trans (by simp))));rw[hln];clear ho5 hgr hat hb5 hln))
         (try(refine hKK _ _ ?_))
         (try clear hKK KK)
         (try simp only[Act.put,gs])
         refine wpAny_take (i:=14) (v:=?_) rfl (by kernel_rfl) (by kernel_rfl) (by kernel_rfl) (fun _ _ _ h=>h) (Or.inl ⟨by rfl,?_⟩) ?_
         rotate_left
         ·intro w;go_simp;try with_reducible rfl
         simp only[Act.put,gs]
         refine wpAny_ready (rs:=[15]) (by kernel_rfl) (by simp) ?_
         refine AllReady.cons rfl (fun KK hKK=>?_) ?_
         ·go_simp
          (try(refine hKK _ _ ?_))
          (try clear hKK KK)
          (try simp only[Act.put,gs])
          refine wpAny_done (by kernel_rfl) ?_ _
          go_wp2_with fail
          go_roundw
          case rel=>exact⟨i+1,HLT.out,(by first|rw[hzi]|rfl|simp),HST⟩
          case measure=>(try rw[hzi]);exact fK HLT.out
         exact AllReady.nil
        exact AllReady.nil
       exact AllReady.nil
      exact AllReady.nil
     refine AllReady.cons rfl (fun KK hKK=>?_) ?_
     ·go_simp
      go_wp2_with (go_at_call 56;go_must (refine(HE.out _ _ (HA.out.drawn.1.below blw)).mono ?_;rintro e W3 ⟨x,⟨xk,xn,xs',xA,xm,xc⟩,rfl,hx,gx,hd3⟩;have HX:Hid (bB (fun b=>wr.heap.size≤b) W3 x ⟨xk,xn,xs',xA,xm,xc⟩):=Hd hx;have HGX:=Hd gx;have hd4:aQ sb B wr W3:=(((aQ.refl HA.out.drawn.1).below blw).trans hd3);have hb3:=hd4.row HOX.out HXN.out;have s3:W3.cell? ⟨W1.heap.size,3,none⟩=some (.slice A i c):=aA hb3 3;have sl:=(gLt hb3);have HO3:=Hd (jC HOW.out hd4 HSX.out);have HD4:=Hd hd4;unfold EV.v;clear hx gx hd3 hd4 hb3))
      (try(refine hKK _ _ ?_))
      (try clear hKK KK)
      (try simp only[Act.put,gs])
      refine wpAny_ready (rs:=[1,12]) (by kernel_rfl) (by simp) ?_
      refine AllReady.cons rfl (fun KK hKK=>?_) ?_
      ·go_simp
       (try(refine hKK _ _ ?_))
       (try clear hKK KK)
       (try simp only[Act.put,gs])
       refine wpAny_ready (rs:=[12]) (by kernel_rfl) (by simp) ?_
       refine AllReady.cons rfl (fun KK hKK=>?_) ?_
       ·go_simp
        (try(refine hKK _ _ ?_))
        (try clear hKK KK)
        (try simp only[Act.put,gs])
        refine wpAny_ready (rs:=[13]) (by kernel_rfl) (by simp) ?_
        refine AllReady.cons rfl (fun KK hKK=>?_) ?_
        ·(refine cO dX _ (by rfl) _ _ _ (by rfl) (W1.heap.size+1) 51 i0 _ 56 underlying49 hi iz isz iby rfl A c _ vs (by rfl) HVL.out.symm ?_ _ _ _ [⟨xk,xn,xs',xA,xm,xc⟩] (by rfl) rfl ?_ ?_ ?_ ?_ ?_;(exact HO3.out.below blw);(first|exact jP W3 ⟨xk,xn,xs',xA,xm,xc⟩|exact(jP W3 ⟨xk,xn,xs',xA,xm,xc⟩).below blw);(exact H63.out);(exact HBYT.out);(exact Nat.le_trans (Nat.succ_le_of_lt sl) (show Below W3.heap.size W3 _ from blw).size);(intro A5 c5 w5 ho5 hgr hat;rw[HVL.out] at hgr hat;have hb5:=iA HOX.out HOW.out HVL.out HXN.out HD4.out blw hgr;have q3:w5.cell? ⟨W1.heap.size,3,none⟩=some (.slice A i c):=aA hb5 3;have qf:∀o,w5.frozen? ⟨W1.heap.size,o,none⟩=false:=fun o=>fH hb5 o;have ql:=(gLt hb5);have hln:(vs++[(⟨xk,xn,xs',xA,xm,xc⟩:EV)]).length=i+1:=(by rw[lA,HVL.out];rfl);rw[hln] at hat;have HST:=Hd (fO (K:=K) HXw.out (Nat.le_of_lt HXw.out) HSB.out HNE.out HB.out HOX.out HLN.out HOW.out HTR.out HGN.out HA.out.row HA.out.drawn bR HD4.out HX.out (by first|exact HGX.out|(rw[HCD.out];exact HGX.out)) blw hgr ho5 (hat.imp id (fun h=>h.trans (by simp))));rw[hln];clear ho5 hgr hat hb5 hln))
         (try(refine hKK _ _ ?_))
         (try clear hKK KK)
         (try simp only[Act.put,gs])
         refine wpAny_take (i:=14) (v:=?_) rfl (by kernel_rfl) (by kernel_rfl) (by kernel_rfl) (fun _ _ _ h=>h) (Or.inl ⟨by rfl,?_⟩) ?_
         rotate_left
         ·intro w;go_simp;try with_reducible rfl
         simp only[Act.put,gs]
         refine wpAny_ready (rs:=[15]) (by kernel_rfl) (by simp) ?_
         refine AllReady.cons rfl (fun KK hKK=>?_) ?_
         ·go_simp
          (try(refine hKK _ _ ?_))
          (try clear hKK KK)
          (try simp only[Act.put,gs])
          refine wpAny_done (by kernel_rfl) ?_ _
          go_wp2_with fail
          go_roundw
          case rel=>exact⟨i+1,HLT.out,(by first|rw[hzi]|rfl|simp),HST⟩
          case measure=>(try rw[hzi]);exact fK HLT.out
         exact AllReady.nil
        exact AllReady.nil
       exact AllReady.nil
      refine AllReady.cons rfl (fun KK hKK=>?_) ?_
      ·go_simp
       (try(refine hKK _ _ ?_))
       (try clear hKK KK)
       (try simp only[Act.put,gs])
       refine wpAny_ready (rs:=[1]) (by kernel_rfl) (by simp) ?_
       refine AllReady.cons rfl (fun KK hKK=>?_) ?_
       ·go_simp
        (try(refine hKK _ _ ?_))
        (try clear hKK KK)
        (try simp only[Act.put,gs])
        refine wpAny_ready (rs:=[13]) (by kernel_rfl) (by simp) ?_
        refine AllReady.cons rfl (fun KK hKK=>?_) ?_
        ·(refine cO dX _ (by rfl) _ _ _ (by rfl) (W1.heap.size+1) 51 i0 _ 56 underlying49 hi iz isz iby rfl A c _ vs (by rfl) HVL.out.symm ?_ _ _ _ [⟨xk,xn,xs',xA,xm,xc⟩] (by rfl) rfl ?_ ?_ ?_ ?_ ?_;(exact HO3.out.below blw);(first|exact jP W3 ⟨xk,xn,xs',xA,xm,xc⟩|exact(jP W3 ⟨xk,xn,xs',xA,xm,xc⟩).below blw);(exact H63.out);(exact HBYT.out);(exact Nat.le_trans (Nat.succ_le_of_lt sl) (show Below W3.heap.size W3 _ from blw).size);(intro A5 c5 w5 ho5 hgr hat;rw[HVL.out] at hgr hat;have hb5:=iA HOX.out HOW.out HVL.out HXN.out HD4.out blw hgr;have q3:w5.cell? ⟨W1.heap.size,3,none⟩=some (.slice A i c):=aA hb5 3;have qf:∀o,w5.frozen? ⟨W1.heap.size,o,none⟩=false:=fun o=>fH hb5 o;have ql:=(gLt hb5);have hln:(vs++[(⟨xk,xn,xs',xA,xm,xc⟩:EV)]).length=i+1:=(by rw[lA,HVL.out];rfl);rw[hln] at hat;have HST:=Hd (fO (K:=K) HXw.out (Nat.le_of_lt HXw.out) HSB.out HNE.out HB.out HOX.out HLN.out HOW.out HTR.out HGN.out HA.out.row HA.out.drawn bR HD4.out HX.out (by first|exact HGX.out|(rw[HCD.out];exact HGX.out)) blw hgr ho5 (hat.imp id (fun h=>h.trans (by simp))));rw[hln];clear ho5 hgr hat hb5 hln))
         (try(refine hKK _ _ ?_))
         (try clear hKK KK)
         (try simp only[Act.put,gs])
         refine wpAny_take (i:=14) (v:=?_) rfl (by kernel_rfl) (by kernel_rfl) (by kernel_rfl) (fun _ _ _ h=>h) (Or.inl ⟨by rfl,?_⟩) ?_
         rotate_left
         ·intro w;go_simp;try with_reducible rfl
         simp only[Act.put,gs]
         refine wpAny_ready (rs:=[15]) (by kernel_rfl) (by simp) ?_
         refine AllReady.cons rfl (fun KK hKK=>?_) ?_
         ·go_simp
          (try(refine hKK _ _ ?_))
          (try clear hKK KK)
          (try simp only[Act.put,gs])
          refine wpAny_done (by kernel_rfl) ?_ _
          go_wp2_with fail
          go_roundw
          case rel=>exact⟨i+1,HLT.out,(by first|rw[hzi]|rfl|simp),HST⟩
          case measure=>(try rw[hzi]);exact fK HLT.out
         exact AllReady.nil
        exact AllReady.nil
       exact AllReady.nil
      exact AllReady.nil
     exact AllReady.nil
   ·have HK10:Hid ((K:Int)≠10):=Hd (aCd hk)
    have HK10n:=Hd hk
    have HCD:Hid ((decide (K=10)&&decide (i=0))=false):=Hd (by simp[hk])
    clear hk
    go_wp2_with (first
     |(go_at_call 118;go_must (refine(HAR.out _).mono ?_;rintro e w' ⟨rfl,rfl⟩)))
    have zk:((K:Int)==10)=false:=bN HK10.out
    have zk2:decide ((K:Int)=10)=false:=decide_eq_false HK10.out
    have zk3:decide (K=10)=false:=decide_eq_false HK10n.out
    refine wp_region_any (by kernel_rfl) ?_
    change wpAny _ _ _ _ _ _ _ (World.drew _)
    refine wpAny_take (i:=0) (v:=?_) rfl (by kernel_rfl) (by kernel_rfl) (by kernel_rfl) (fun _ _ _ h=>h) (Or.inl ⟨by rfl,?_⟩) ?_
    rotate_left
    ·intro w;go_simp;try with_reducible rfl
    simp only[Act.put,gs]
    refine wpAny_take (i:=2) (v:=?_) rfl (by kernel_rfl) (by kernel_rfl) (by kernel_rfl) (fun _ _ _ h=>h) (Or.inl ⟨by rfl,?_⟩) ?_
    rotate_left
    ·intro w;go_simp;try with_reducible rfl
    simp only[Act.put,gs]
    refine wpAny_take (i:=3) (v:=?_) rfl (by kernel_rfl) (by kernel_rfl) (by kernel_rfl) (fun _ _ _ h=>h) (Or.inl ⟨by rfl,?_⟩) ?_
    rotate_left
    ·intro w;go_simp;try with_reducible rfl
    simp only[Act.put,gs]
    refine wpAny_take (i:=4) (v:=?_) rfl (by kernel_rfl) (by kernel_rfl) (by kernel_rfl) (fun _ _ _ h=>h) (Or.inl ⟨by rfl,?_⟩) ?_
    rotate_left
    ·intro w;go_simp;try with_reducible rfl
    simp only[Act.put,gs]
    refine wpAny_take (i:=5) (v:=?_) rfl (by kernel_rfl) (by kernel_rfl) (by kernel_rfl) (fun _ _ _ h=>h) (Or.inl ⟨by rfl,?_⟩) ?_
    rotate_left
    ·intro w;go_simp;try with_reducible rfl
    simp only[Act.put,gs]
    refine wpAny_take (i:=6) (v:=?_) rfl (by kernel_rfl) (by kernel_rfl) (by kernel_rfl) (fun _ _ _ h=>h) (Or.inl ⟨by rfl,?_⟩) ?_
    rotate_left
    ·intro w;go_simp;try with_reducible rfl
    simp only[Act.put,gs]
    refine wpAny_take (i:=7) (v:=?_) rfl (by kernel_rfl) (by kernel_rfl) (by kernel_rfl) (fun _ _ _ h=>h) (Or.inl ⟨by rfl,?_⟩) ?_
    rotate_left
    ·intro w;go_simp;try with_reducible rfl
    simp only[Act.put,gs]
    refine wpAny_take (i:=8) (v:=undef) rfl (by kernel_rfl) (by kernel_rfl) (by kernel_rfl) (fun _ _ _ h=>h) (Or.inr ⟨by rfl,rfl⟩) ?_
    simp only[Act.put,gs]
    refine wpAny_take (i:=9) (v:=undef) rfl (by kernel_rfl) (by kernel_rfl) (by kernel_rfl) (fun _ _ _ h=>h) (Or.inr ⟨by rfl,rfl⟩) ?_
    simp only[Act.put,gs]
    refine wpAny_take (i:=10) (v:=?_) rfl (by kernel_rfl) (by kernel_rfl) (by kernel_rfl) (fun _ _ _ h=>h) (Or.inl ⟨by rfl,?_⟩) ?_
    rotate_left
    ·intro w;go_simp;try with_reducible rfl
    simp only[Act.put,gs]
    refine wpAny_ready (rs:=[1,11]) (by kernel_rfl) (by simp) ?_
    refine AllReady.cons rfl (fun KK hKK=>?_) ?_
    ·go_simp
     (try(refine hKK _ _ ?_))
     (try clear hKK KK)
     (try simp only[Act.put,gs])
     refine wpAny_ready (rs:=[11]) (by kernel_rfl) (by simp) ?_
     refine AllReady.cons rfl (fun KK hKK=>?_) ?_
     ·go_simp
      go_wp2_with (go_at_call 56;go_must (refine(HE.out _ _ (HA.out.drawn.1.below blw)).mono ?_;rintro e W3 ⟨x,⟨xk,xn,xs',xA,xm,xc⟩,rfl,hx,gx,hd3⟩;have HX:Hid (bB (fun b=>wr.heap.size≤b) W3 x ⟨xk,xn,xs',xA,xm,xc⟩):=Hd hx;have HGX:=Hd gx;have hd4:aQ sb B wr W3:=(((aQ.refl HA.out.drawn.1).below blw).trans hd3);have hb3:=hd4.row HOX.out HXN.out;have s3:W3.cell? ⟨W1.heap.size,3,none⟩=some (.slice A i c):=aA hb3 3;have sl:=(gLt hb3);have HO3:=Hd (jC HOW.out hd4 HSX.out);have HD4:=Hd hd4;unfold EV.v;clear hx gx hd3 hd4 hb3))
      (try(refine hKK _ _ ?_))
      (try clear hKK KK)
      (try simp only[Act.put,gs])
      refine wpAny_ready (rs:=[12]) (by kernel_rfl) (by simp) ?_
      refine AllReady.cons rfl (fun KK hKK=>?_) ?_
      ·go_simp
       (try(refine hKK _ _ ?_))
       (try clear hKK KK)
       (try simp only[Act.put,gs])
       refine wpAny_ready (rs:=[13]) (by kernel_rfl) (by simp) ?_
       refine AllReady.cons rfl (fun KK hKK=>?_) ?_
       ·(refine cO dX _ (by rfl) _ _ _ (by rfl) (W1.heap.size+1) 51 i0 _ 56 underlying49 hi iz isz iby rfl A c _ vs (by rfl) HVL.out.symm ?_ _ _ _ [⟨xk,xn,xs',xA,xm,xc⟩] (by rfl) rfl ?_ ?_ ?_ ?_ ?_;(exact HO3.out.below blw);(first|exact jP W3 ⟨xk,xn,xs',xA,xm,xc⟩|exact(jP W3 ⟨xk,xn,xs',xA,xm,xc⟩).below blw);(exact H63.out);(exact HBYT.out);(exact Nat.le_trans (Nat.succ_le_of_lt sl) (show Below W3.heap.size W3 _ from blw).size);(intro A5 c5 w5 ho5 hgr hat;rw[HVL.out] at hgr hat;have hb5:=iA HOX.out HOW.out HVL.out HXN.out HD4.out blw hgr;have q3:w5.cell? ⟨W1.heap.size,3,none⟩=some (.slice A i c):=aA hb5 3;have qf:∀o,w5.frozen? ⟨W1.heap.size,o,none⟩=false:=fun o=>fH hb5 o;have ql:=(gLt hb5);have hln:(vs++[(⟨xk,xn,xs',xA,xm,xc⟩:EV)]).length=i+1:=(by rw[lA,HVL.out];rfl);rw[hln] at hat;have HST:=Hd (fO (K:=K) HXw.out (Nat.le_of_lt HXw.out) HSB.out HNE.out HB.out HOX.out HLN.out HOW.out HTR.out HGN.out HA.out.row HA.out.drawn bR HD4.out HX.out (by first|exact HGX.out|(rw[HCD.out];exact HGX.out)) blw hgr ho5 (hat.imp id (fun h=>h.trans (by simp))));rw[hln];clear ho5 hgr hat hb5 hln))
        (try(refine hKK _ _ ?_))
        (try clear hKK KK)
        (try simp only[Act.put,gs])
        refine wpAny_take (i:=14) (v:=?_) rfl (by kernel_rfl) (by kernel_rfl) (by kernel_rfl) (fun _ _ _ h=>h) (Or.inl ⟨by rfl,?_⟩) ?_
        rotate_left
        ·intro w;go_simp;try with_reducible rfl
        simp only[Act.put,gs]
        refine wpAny_ready (rs:=[15]) (by kernel_rfl) (by simp) ?_
        refine AllReady.cons rfl (fun KK hKK=>?_) ?_
        ·go_simp
         (try(refine hKK _ _ ?_))
         (try clear hKK KK)
         (try simp only[Act.put,gs])
         refine wpAny_done (by kernel_rfl) ?_ _
         go_wp2_with fail
         go_roundw
         case rel=>exact⟨i+1,HLT.out,(by first|rw[hzi]|rfl|simp),HST⟩
         case measure=>(try rw[hzi]);exact fK HLT.out
        exact AllReady.nil
       exact AllReady.nil
      exact AllReady.nil
     exact AllReady.nil
    refine AllReady.cons rfl (fun KK hKK=>?_) ?_
    ·go_simp
     go_wp2_with (go_at_call 56;go_must (refine(HE.out _ _ (HA.out.drawn.1.below blw)).mono ?_;rintro e W3 ⟨x,⟨xk,xn,xs',xA,xm,xc⟩,rfl,hx,gx,hd3⟩;have HX:Hid (bB (fun b=>wr.heap.size≤b) W3 x ⟨xk,xn,xs',xA,xm,xc⟩):=Hd hx;have HGX:=Hd gx;have hd4:aQ sb B wr W3:=(((aQ.refl HA.out.drawn.1).below blw).trans hd3);have hb3:=hd4.row HOX.out HXN.out;have s3:W3.cell? ⟨W1.heap.size,3,none⟩=some (.slice A i c):=aA hb3 3;have sl:=(gLt hb3);have HO3:=Hd (jC HOW.out hd4 HSX.out);have HD4:=Hd hd4;unfold EV.v;clear hx gx hd3 hd4 hb3))
     (try(refine hKK _ _ ?_))
     (try clear hKK KK)
     (try simp only[Act.put,gs])
     refine wpAny_ready (rs:=[1,12]) (by kernel_rfl) (by simp) ?_
     refine AllReady.cons rfl (fun KK hKK=>?_) ?_
     ·go_simp
      (try(refine hKK _ _ ?_))
      (try clear hKK KK)
      (try simp only[Act.put,gs])
      refine wpAny_ready (rs:=[12]) (by kernel_rfl) (by simp) ?_
      refine AllReady.cons rfl (fun KK hKK=>?_) ?_
      ·go_simp
       (try(refine hKK _ _ ?_))
       (try clear hKK KK)
       (try simp only[Act.put,gs])
       refine wpAny_ready (rs:=[13]) (by kernel_rfl) (by simp) ?_
       refine AllReady.cons rfl (fun KK hKK=>?_) ?_
       ·(refine cO dX _ (by rfl) _ _ _ (by rfl) (W1.heap.size+1) 51 i0 _ 56 underlying49 hi iz isz iby rfl A c _ vs (by rfl) HVL.out.symm ?_ _ _ _ [⟨xk,xn,xs',xA,xm,xc⟩] (by rfl) rfl ?_ ?_ ?_ ?_ ?_;(exact HO3.out.below blw);(first|exact jP W3 ⟨xk,xn,xs',xA,xm,xc⟩|exact(jP W3 ⟨xk,xn,xs',xA,xm,xc⟩).below blw);(exact H63.out);(exact HBYT.out);(exact Nat.le_trans (Nat.succ_le_of_lt sl) (show Below W3.heap.size W3 _ from blw).size);(intro A5 c5 w5 ho5 hgr hat;rw[HVL.out] at hgr hat;have hb5:=iA HOX.out HOW.out HVL.out HXN.out HD4.out blw hgr;have q3:w5.cell? ⟨W1.heap.size,3,none⟩=some (.slice A i c):=aA hb5 3;have qf:∀o,w5.frozen? ⟨W1.heap.size,o,none⟩=false:=fun o=>fH hb5 o;have ql:=(gLt hb5);have hln:(vs++[(⟨xk,xn,xs',xA,xm,xc⟩:EV)]).length=i+1:=(by rw[lA,HVL.out];rfl);rw[hln] at hat;have HST:=Hd (fO (K:=K) HXw.out (Nat.le_of_lt HXw.out) HSB.out HNE.out HB.out HOX.out HLN.out HOW.out HTR.out HGN.out HA.out.row HA.out.drawn bR HD4.out HX.out (by first|exact HGX.out|(rw[HCD.out];exact HGX.out)) blw hgr ho5 (hat.imp id (fun h=>h.trans (by simp))));rw[hln];clear ho5 hgr hat hb5 hln))
        (try(refine hKK _ _ ?_))
        (try clear hKK KK)
        (try simp only[Act.put,gs])
        refine wpAny_take (i:=14) (v:=?_) rfl (by kernel_rfl) (by kernel_rfl) (by kernel_rfl) (fun _ _ _ h=>h) (Or.inl ⟨by rfl,?_⟩) ?_
        rotate_left
        ·intro w;go_simp;try with_reducible rfl
        simp only[Act.put,gs]
        refine wpAny_ready (rs:=[15]) (by kernel_rfl) (by simp) ?_
        refine AllReady.cons rfl (fun KK hKK=>?_) ?_
        ·go_simp
         (try(refine hKK _ _ ?_))
         (try clear hKK KK)
         (try simp only[Act.put,gs])
         refine wpAny_done (by kernel_rfl) ?_ _
         go_wp2_with fail
         go_roundw
         case rel=>exact⟨i+1,HLT.out,(by first|rw[hzi]|rfl|simp),HST⟩
         case measure=>(try rw[hzi]);exact fK HLT.out
        exact AllReady.nil
       exact AllReady.nil
      exact AllReady.nil
     refine AllReady.cons rfl (fun KK hKK=>?_) ?_
     ·go_simp
      (try(refine hKK _ _ ?_))
      (try clear hKK KK)
      (try simp only[Act.put,gs])
      refine wpAny_ready (rs:=[1]) (by kernel_rfl) (by simp) ?_
      refine AllReady.cons rfl (fun KK hKK=>?_) ?_
      ·go_simp
       (try(refine hKK _ _ ?_))
       (try clear hKK KK)
       (try simp only[Act.put,gs])
       refine wpAny_ready (rs:=[13]) (by kernel_rfl) (by simp) ?_
       refine AllReady.cons rfl (fun KK hKK=>?_) ?_
       ·(refine cO dX _ (by rfl) _ _ _ (by rfl) (W1.heap.size+1) 51 i0 _ 56 underlying49 hi iz isz iby rfl A c _ vs (by rfl) HVL.out.symm ?_ _ _ _ [⟨xk,xn,xs',xA,xm,xc⟩] (by rfl) rfl ?_ ?_ ?_ ?_ ?_;(exact HO3.out.below blw);(first|exact jP W3 ⟨xk,xn,xs',xA,xm,xc⟩|exact(jP W3 ⟨xk,xn,xs',xA,xm,xc⟩).below blw);(exact H63.out);(exact HBYT.out);(exact Nat.le_trans (Nat.succ_le_of_lt sl) (show Below W3.heap.size W3 _ from blw).size);(intro A5 c5 w5 ho5 hgr hat;rw[HVL.out] at hgr hat;have hb5:=iA HOX.out HOW.out HVL.out HXN.out HD4.out blw hgr;have q3:w5.cell? ⟨W1.heap.size,3,none⟩=some (.slice A i c):=aA hb5 3;have qf:∀o,w5.frozen? ⟨W1.heap.size,o,none⟩=false:=fun o=>fH hb5 o;have ql:=(gLt hb5);have hln:(vs++[(⟨xk,xn,xs',xA,xm,xc⟩:EV)]).length=i+1:=(by rw[lA,HVL.out];rfl);rw[hln] at hat;have HST:=Hd (fO (K:=K) HXw.out (Nat.le_of_lt HXw.out) HSB.out HNE.out HB.out HOX.out HLN.out HOW.out HTR.out HGN.out HA.out.row HA.out.drawn bR HD4.out HX.out (by first|exact HGX.out|(rw[HCD.out];exact HGX.out)) blw hgr ho5 (hat.imp id (fun h=>h.trans (by simp))));rw[hln];clear ho5 hgr hat hb5 hln))
        (try(refine hKK _ _ ?_))
        (try clear hKK KK)
        (try simp only[Act.put,gs])
        refine wpAny_take (i:=14) (v:=?_) rfl (by kernel_rfl) (by kernel_rfl) (by kernel_rfl) (fun _ _ _ h=>h) (Or.inl ⟨by rfl,?_⟩) ?_
        rotate_left
        ·intro w;go_simp;try with_reducible rfl
        simp only[Act.put,gs]
        refine wpAny_ready (rs:=[15]) (by kernel_rfl) (by simp) ?_
        refine AllReady.cons rfl (fun KK hKK=>?_) ?_
        ·go_simp
         (try(refine hKK _ _ ?_))
         (try clear hKK KK)
         (try simp only[Act.put,gs])
         refine wpAny_done (by kernel_rfl) ?_ _
         go_wp2_with fail
         go_roundw
         case rel=>exact⟨i+1,HLT.out,(by first|rw[hzi]|rfl|simp),HST⟩
         case measure=>(try rw[hzi]);exact fK HLT.out
        exact AllReady.nil
       exact AllReady.nil
      exact AllReady.nil
     exact AllReady.nil
    exact AllReady.nil
  ·obtain rfl:i=m:=by omega
   obtain⟨A,c,xs,vs,hbox,hlen,hown,htr,hgn⟩:=HA.out.ex
   have HOX:=Hd hbox
   have HOW:=Hd hown
   have HTR:=Hd htr
   have HLN:=Hd hlen
   have HRW:=Hd HA.out.row
   have HG0:Hid (vM d K xs):=Hd ⟨HK.out,hlen.trans HM.out.symm,hgn⟩
   have HXN:Hid (W1.heap.size≠sb):=Hd (by have:=HSB.out;have:=HXw.out;omega)
   have HD0:Hid (aQ sb B wr wr):=Hd (aQ.refl HA.out.drawn.1)
   have nrx:w.heap.size≠W1.heap.size:=Nat.ne_of_lt HXw.out
   have nxr:W1.heap.size≠w.heap.size:=Nat.ne_of_gt HXw.out
   clear hbox hlen hown htr hgn hlt
   by_cases h3:K=3
   ·have x3:((K:Int)==3)=true:=by rw[h3];rfl
    have HG:Hid (∀k:Nat,k<60→Gen (d+1) false (.node (K:Int) 0 (aK k) xs)):=Hd (fun k hk=>by have h:=HG0.out;rw[h3] at h ⊢;exact gen3 h hk)
    clear h3
    go_wp2_with (first
     |(go_at_call 118;go_must (refine(HAR.out _).mono ?_;rintro e w' ⟨rfl,rfl⟩))
     |(go_at_call 117;go_must (refine(HN60.out _ (HA.out.drawn.1.below blw)).mono ?_;rintro e W2 ⟨k2,rfl,hk2,hd2⟩;have HK2:=Hd hk2;have hd3:aQ sb B wr W2:=((aQ.refl HA.out.drawn.1).below blw).trans hd2;have HD3:=Hd hd3;clear hd2 hk2;have hrx:=hd3.row HOX.out HXN.out;have hrr:=hd3.row HRW.out HNE.out;have HRX:=Hd hrx;have HRR:=Hd hrr;clear hrx hrr hd3))
     |(go_at_call 20;go_must (refine(HSE.out k2 _ HK2.out).mono ?_;rintro e W3 ⟨rfl,hb⟩;have hrx:=(hb.block _ (gLt HRX.out)).trans HRX.out;have hrr:=(hb.block _ (gLt HRR.out)).trans HRR.out;have HD4:Hid (aQ sb B wr W3):=Hd (HD3.out.below hb);have x0:=aA hrx 0;have x1:=aA hrx 1;have x2:=aA hrx 2;have x3:=aA hrx 3;have r0:=aA hrr 0;have r1:=aA hrr 1;have r2:=aA hrr 2;have r3:=aA hrr 3;have fx:∀o,W3.frozen? ⟨W1.heap.size,o,none⟩=false:=fun o=>fH hrx o;have fr:∀o,W3.frozen? ⟨w.heap.size,o,none⟩=false:=fun o=>fH hrr o;have lx:=(gLt hrx);have lr:=(gLt hrr);clear hrx hrr hb)))
    refine bodyPost_ret (v:=.agg #[.int .i64 (K:Int),.int .i64 0,.string (aK k2),.slice A i c]) (by simp[results,results56,go_sem, *]) rfl ?_
    exact gA 0 (aK k2) (Nat.le_of_lt HXw.out) HSB.out HOW.out HTR.out HLN.out HD4.out (fun b h1 h2=>(sW HXw.out h1 _ _ _ _).trans (aG _ ⟨W1.heap.size,2,none⟩ _ b (Nat.ne_of_gt h1))) (kC ((HA.out.drawn.trans HD4.out).set HB.out (p:=⟨W1.heap.size,2,none⟩) (Nat.le_of_lt HXw.out) _) HB.out nR _ _ _ _) (HG.out k2 HK2.out)
   by_cases h4:K=4
   ·have x3:((K:Int)==3)=false:=bN (by omega)
    have x4:((K:Int)==4)=true:=by rw[h4];rfl
    have HG:Hid (∀k:Nat,k<3000→Gen (d+1) false (.node (K:Int) k ⟨#[]⟩ xs)):=Hd (fun k hk=>by have h:=HG0.out;rw[h4] at h ⊢;exact gen4 h hk)
    clear h4
    clear h3
    go_wp2_with (first
     |(go_at_call 118;go_must (refine(HAR.out _).mono ?_;rintro e w' ⟨rfl,rfl⟩))
     |(go_at_call 117;go_must (refine(HN3000.out _ (HA.out.drawn.1.below blw)).mono ?_;rintro e W2 ⟨k2,rfl,hk2,hd2⟩;have HK2:=Hd hk2;have hd3:aQ sb B wr W2:=((aQ.refl HA.out.drawn.1).below blw).trans hd2;have HD3:=Hd hd3;clear hd2 hk2;have hrx:=hd3.row HOX.out HXN.out;have hrr:=hd3.row HRW.out HNE.out;have x0:=aA hrx 0;have x1:=aA hrx 1;have x2:=aA hrx 2;have x3:=aA hrx 3;have r0:=aA hrr 0;have r1:=aA hrr 1;have r2:=aA hrr 2;have r3:=aA hrr 3;have fx:∀o,W2.frozen? ⟨W1.heap.size,o,none⟩=false:=fun o=>fH hrx o;have fr:∀o,W2.frozen? ⟨w.heap.size,o,none⟩=false:=fun o=>fH hrr o;have lx:=(gLt hrx);have lr:=(gLt hrr);clear hrx hrr hd3)))
    refine bodyPost_ret (v:=.agg #[.int .i64 (K:Int),.int .i64 (k2:Int),.string ⟨#[]⟩,.slice A i c]) (by simp[results,results56,go_sem, *]) rfl ?_
    exact gA (k2:Int) ⟨#[]⟩ (Nat.le_of_lt HXw.out) HSB.out HOW.out HTR.out HLN.out HD3.out (fun b h1 h2=>(sW HXw.out h1 _ _ _ _).trans (aG _ ⟨W1.heap.size,1,none⟩ _ b (Nat.ne_of_gt h1))) (kC ((HA.out.drawn.trans HD3.out).set HB.out (p:=⟨W1.heap.size,1,none⟩) (Nat.le_of_lt HXw.out) _) HB.out nR _ _ _ _) (HG.out k2 HK2.out)
   by_cases h5:K=5
   ·have x3:((K:Int)==3)=false:=bN (by omega)
    have x4:((K:Int)==4)=false:=bN (by omega)
    have x5:((K:Int)==5)=true:=by rw[h5];rfl
    have HG:Hid (∀k:Nat,k<3000→Gen (d+1) false (.node (K:Int) k ⟨#[]⟩ xs)):=Hd (fun k hk=>by have h:=HG0.out;rw[h5] at h ⊢;exact gen5 h hk)
    clear h5
    clear h3 h4
    go_wp2_with (first
     |(go_at_call 118;go_must (refine(HAR.out _).mono ?_;rintro e w' ⟨rfl,rfl⟩))
     |(go_at_call 117;go_must (refine(HN3000.out _ (HA.out.drawn.1.below blw)).mono ?_;rintro e W2 ⟨k2,rfl,hk2,hd2⟩;have HK2:=Hd hk2;have hd3:aQ sb B wr W2:=((aQ.refl HA.out.drawn.1).below blw).trans hd2;have HD3:=Hd hd3;clear hd2 hk2;have hrx:=hd3.row HOX.out HXN.out;have hrr:=hd3.row HRW.out HNE.out;have x0:=aA hrx 0;have x1:=aA hrx 1;have x2:=aA hrx 2;have x3:=aA hrx 3;have r0:=aA hrr 0;have r1:=aA hrr 1;have r2:=aA hrr 2;have r3:=aA hrr 3;have fx:∀o,W2.frozen? ⟨W1.heap.size,o,none⟩=false:=fun o=>fH hrx o;have fr:∀o,W2.frozen? ⟨w.heap.size,o,none⟩=false:=fun o=>fH hrr o;have lx:=(gLt hrx);have lr:=(gLt hrr);clear hrx hrr hd3)))
    refine bodyPost_ret (v:=.agg #[.int .i64 (K:Int),.int .i64 (k2:Int),.string ⟨#[]⟩,.slice A i c]) (by simp[results,results56,go_sem, *]) rfl ?_
    exact gA (k2:Int) ⟨#[]⟩ (Nat.le_of_lt HXw.out) HSB.out HOW.out HTR.out HLN.out HD3.out (fun b h1 h2=>(sW HXw.out h1 _ _ _ _).trans (aG _ ⟨W1.heap.size,1,none⟩ _ b (Nat.ne_of_gt h1))) (kC ((HA.out.drawn.trans HD3.out).set HB.out (p:=⟨W1.heap.size,1,none⟩) (Nat.le_of_lt HXw.out) _) HB.out nR _ _ _ _) (HG.out k2 HK2.out)
   by_cases h6:K=6
   ·have x3:((K:Int)==3)=false:=bN (by omega)
    have x4:((K:Int)==4)=false:=bN (by omega)
    have x5:((K:Int)==5)=false:=bN (by omega)
    have x6:((K:Int)==6)=true:=by rw[h6];rfl
    have HG:Hid (∀k:Nat,k<12000→Gen (d+1) false (.node (K:Int) k ⟨#[]⟩ xs)):=Hd (fun k hk=>by have h:=HG0.out;rw[h6] at h ⊢;exact gen6 h hk)
    clear h6
    clear h3 h4 h5
    go_wp2_with (first
     |(go_at_call 118;go_must (refine(HAR.out _).mono ?_;rintro e w' ⟨rfl,rfl⟩))
     |(go_at_call 117;go_must (refine(HN12000.out _ (HA.out.drawn.1.below blw)).mono ?_;rintro e W2 ⟨k2,rfl,hk2,hd2⟩;have HK2:=Hd hk2;have hd3:aQ sb B wr W2:=((aQ.refl HA.out.drawn.1).below blw).trans hd2;have HD3:=Hd hd3;clear hd2 hk2;have hrx:=hd3.row HOX.out HXN.out;have hrr:=hd3.row HRW.out HNE.out;have x0:=aA hrx 0;have x1:=aA hrx 1;have x2:=aA hrx 2;have x3:=aA hrx 3;have r0:=aA hrr 0;have r1:=aA hrr 1;have r2:=aA hrr 2;have r3:=aA hrr 3;have fx:∀o,W2.frozen? ⟨W1.heap.size,o,none⟩=false:=fun o=>fH hrx o;have fr:∀o,W2.frozen? ⟨w.heap.size,o,none⟩=false:=fun o=>fH hrr o;have lx:=(gLt hrx);have lr:=(gLt hrr);clear hrx hrr hd3)))
    refine bodyPost_ret (v:=.agg #[.int .i64 (K:Int),.int .i64 (k2:Int),.string ⟨#[]⟩,.slice A i c]) (by simp[results,results56,go_sem, *]) rfl ?_
    exact gA (k2:Int) ⟨#[]⟩ (Nat.le_of_lt HXw.out) HSB.out HOW.out HTR.out HLN.out HD3.out (fun b h1 h2=>(sW HXw.out h1 _ _ _ _).trans (aG _ ⟨W1.heap.size,1,none⟩ _ b (Nat.ne_of_gt h1))) (kC ((HA.out.drawn.trans HD3.out).set HB.out (p:=⟨W1.heap.size,1,none⟩) (Nat.le_of_lt HXw.out) _) HB.out nR _ _ _ _) (HG.out k2 HK2.out)
   have x3:((K:Int)==3)=false:=bN (by omega)
   have x4:((K:Int)==4)=false:=bN (by omega)
   have x5:((K:Int)==5)=false:=bN (by omega)
   have x6:((K:Int)==6)=false:=bN (by omega)
   have HG:Hid (vM d K xs∧K≠3∧K≠4∧K≠5∧K≠6):=Hd ⟨HG0.out,h3,h4,h5,h6⟩
   clear h3 h4 h5 h6
   have hrx:=HOX.out
   have hrr:=HRW.out
   have x0:=aA hrx 0
   have x1:=aA hrx 1
   have x2:=aA hrx 2
   have x3:=aA hrx 3
   have r0:=aA hrr 0
   have r1:=aA hrr 1
   have r2:=aA hrr 2
   have r3:=aA hrr 3
   have fx:∀o,wr.frozen? ⟨W1.heap.size,o,none⟩=false:=fun o=>fH hrx o
   have fr:∀o,wr.frozen? ⟨w.heap.size,o,none⟩=false:=fun o=>fH hrr o
   have lx:=(gLt hrx)
   have lr:=(gLt hrr)
   clear hrx hrr
   go_wp2_with (first
    |(go_at_call 118;go_must (refine(HAR.out _).mono ?_;rintro e w' ⟨rfl,rfl⟩)))
   refine bodyPost_ret (v:=.agg #[.int .i64 (K:Int),.int .i64 0,.string ⟨#[]⟩,.slice A i c]) (by simp[results,results56,go_sem, *]) rfl ?_
   exact gA 0 ⟨#[]⟩ (Nat.le_of_lt HXw.out) HSB.out HOW.out HTR.out HLN.out HD0.out (fun b h1 h2=>sW HXw.out h1 _ _ _ _) (kC (HA.out.drawn.trans HD0.out) HB.out nR _ _ _ _) (genE HG.out)
end Go.Proofs.YtlibhkkckgkkkaaGreatDoor.Tf
