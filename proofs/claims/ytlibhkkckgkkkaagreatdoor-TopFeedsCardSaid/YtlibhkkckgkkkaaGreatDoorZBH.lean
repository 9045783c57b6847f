/- Part of the proof of TopFeeds: LwL MdlF AwE AwV. -/
import Derived.Test.YtlibhkkckgkkkaaGreatDoorZAG
import Derived.Test.YtlibhkkckgkkkaaGreatDoorZAU
import Derived.Test.YtlibhkkckgkkkaaGreatDoorZAX
import Derived.Test.YtlibhkkckgkkkaaGreatDoorZAZ
import Derived.Test.YtlibhkkckgkkkaaGreatDoorZBG
set_option maxHeartbeats 4000000
set_option maxRecDepth 100000
namespace Go.Proofs.YtlibhkkckgkkkaaGreatDoor.Tf
open Go.RowKit Go.Proofs.YtlibhkkckgkkkaaGreatDoor.Mem Go.Proofs.YtlibhkkckgkkkaaGreatDoor.Boo Go.Proofs.Tryz
set_option linter.unusedSimpArgs false in
theorem aAl (sb B:Nat) (w:World) (h:Src sb B w):Calls prog 56 #[.pointer (some ⟨sb,0,none⟩),.int .i64 1,.bool false] w (eV sb B 1 false w):=by
 have HN10:Hid (∀W,Src sb B W→Calls prog 117 #[.pointer (some ⟨sb,0,none⟩),.int .i64 10] W fun e w'=>∃k:Nat,e=.returned (.int .i64 (k:Int))∧k<10∧aQ sb B W w'):=Hd (fun W hW=>fG sb B 10 (by decide) W hW)
 have HN60:Hid (∀W,Src sb B W→Calls prog 117 #[.pointer (some ⟨sb,0,none⟩),.int .i64 60] W fun e w'=>∃k:Nat,e=.returned (.int .i64 (k:Int))∧k<60∧aQ sb B W w'):=Hd (fun W hW=>fG sb B 60 (by decide) W hW)
 have HN3000:Hid (∀W,Src sb B W→Calls prog 117 #[.pointer (some ⟨sb,0,none⟩),.int .i64 3000] W fun e w'=>∃k:Nat,e=.returned (.int .i64 (k:Int))∧k<3000∧aQ sb B W w'):=Hd (fun W hW=>fG sb B 3000 (by decide) W hW)
 have HN12000:Hid (∀W,Src sb B W→Calls prog 117 #[.pointer (some ⟨sb,0,none⟩),.int .i64 12000] W fun e w'=>∃k:Nat,e=.returned (.int .i64 (k:Int))∧k<12000∧aQ sb B W w'):=Hd (fun W hW=>fG sb B 12000 (by decide) W hW)
 have HSE:Hid (∀(k:Nat) W,k<60→Calls prog 20 #[.int .i64 (k:Int)] W (Ret (.string (aK k)) W)):=Hd (fun k W hk=>lV k hk k ⟨by omega,by omega⟩ (by unfold dG;rw[if_neg (by omega)];omega) W)
 obtain⟨d,hd0⟩:∃d:Nat,d=0:=⟨_,rfl⟩
 rw[show(1:Nat)=d+1 by omega]
 have HS:=Hd h
 have HB:=Hd h.le
 have HSB:Hid (sb<w.heap.size):=Hd (by have:=h.lt;have:=h.le;omega)
 have HNE:Hid (w.heap.size≠sb):=Hd (by have:=HSB.out;omega)
 obtain⟨i0,hi,iz,isz,iby⟩:=info_parts zV
 clear h hd0
 go_enter func56,ntmps56
 go_wp2_with fail
 refine(HN10.out _ (HS.out.below blw)).mono ?_
 rintro e W1 ⟨k,rfl,hk,hd1⟩
 have hr:=hd1.row (b:=w.heap.size) (aN w _) HNE.out
 have HD1:Hid (aQ sb B w W1):=Hd (((aQ.refl HS.out).alloc _).trans hd1)
 have HR1:Hid (W1.heap[w.heap.size]?=some (.cells z51 51 (0,0))):=Hd hr
 obtain⟨K1,hK1⟩:∃K1,K1=k+1:=⟨_,rfl⟩
 obtain⟨R1,hR1⟩:∃R1,R1=K1 % 4:=⟨_,rfl⟩
 obtain⟨K,hK⟩:∃K,K=R1+1:=⟨_,rfl⟩
 have HK:Hid (1≤K∧K≤10):=Hd (by omega)
 have HM0:Hid (qI K=0):=Hd (by
  have hc:K=1∨K=2∨K=3∨K=4:=by omega
  rcases hc with h|h|h|h <;> rw[h] <;> rfl)
 have HZ1:Hid (wrap64 (1+(k:Int))=(K1:Int)):=Hd (by rw[Mem.w64 (by omega) (by omega)];omega)
 have HZ2:Hid ((K1:Int).tmod 4=(R1:Int)):=Hd (by rw[Int.tmod_eq_emod_of_nonneg (by omega)];omega)
 have HZ4:Hid (1+(R1:Int)=(K:Int)):=Hd (by omega)
 have HZ5:Hid (wrap64 (K:Int)=(K:Int)):=Hd (Mem.w64 (by omega) (by omega))
 have hz1:=HZ1.out
 have hz2:=HZ2.out
 have hz4:=HZ4.out
 have hz5:=HZ5.out
 have HXw:Hid (w.heap.size<W1.heap.size):=Hd (gLt hr)
 clear hr hd1 hK hK1 hR1 hk
 go_wp2_with fail
 have HAR:Hid (∀W,Calls prog 118 #[.int .i64 (K:Int)] W fun e w'=>e=.returned (.int .i64 (qI K:Nat))∧W=w'):=Hd (fun W=>pC K (by have:=HK.out;omega) W)
 obtain⟨m,hm⟩:∃m,qI K=m:=⟨_,rfl⟩
 rw[hm] at HAR
 have HM:Hid (qI K=m):=Hd hm
 have HM3:Hid (m≤3):=Hd (by rw[←hm];exact aCh K)
 have HA0:Hid (Argd w.heap.size W1.heap.size sb B d K 0 w (W1.alloc (.cells #[.int .i64 (K:Int),.int .i64 0,.string ⟨#[]⟩,.slice none 0 0] 51))):=Hd ⟨⟨none,0,[],[],aN _ _,rfl,En.Own.none_ _ _ _,⟨rfl,fun j x v h=>by cases h⟩,fun j x h=>by cases h⟩,(Below.heap_alloc _ _ _ HXw.out).trans HR1.out,HD1.out.alloc _⟩
 clear hm
 (try rw[hz1])
 (try rw[hz2])
 (try rw[hz4])
 (try simp only[hz5])
 go_loopw [9] (fun iv wr=>∃i:Nat,i≤m∧iv=.int .i64 i∧Hid (Argd w.heap.size W1.heap.size sb B d K i w wr)) (fun iv _=>m-(intOf iv).toNat)
 case atStart=>exact⟨0,Nat.zero_le _,rfl,HA0⟩
 case round=>
  obtain⟨i,him,rfl,HA⟩:=hrel
  by_cases hlt:i<m
  ·exfalso
   clear hz1 hz2 hz4 hz5
   have h1:=HM.out
   rw[HM0.out] at h1
   omega
  ·obtain rfl:i=m:=by omega
   obtain⟨A,c,xs,vs,hbox,hlen,hown,htr,hgn⟩:=HA.out.ex
   have HOX:=Hd hbox
   have HOW:=Hd hown
   have HTR:=Hd htr
   have HLN:=Hd hlen
   have HRW:=Hd HA.out.row
   have HG0:Hid (vM d K xs):=Hd ⟨HK.out,hlen.trans HM.out.symm,hgn⟩
   have HXN:Hid (W1.heap.size≠sb):=Hd (by have:=HSB.out;have:=HXw.out;omega)
   have HD0:Hid (aQ sb B wr wr):=Hd (aQ.refl HA.out.drawn.1)
   have nrx:w.heap.size≠W1.heap.size:=Nat.ne_of_lt HXw.out
   have nxr:W1.heap.size≠w.heap.size:=Nat.ne_of_gt HXw.out
   clear hbox hlen hown htr hgn hlt
   by_cases h3:K=3
   ·have x3:((K:Int)==3)=true:=by rw[h3];rfl
    have HG:Hid (∀k:Nat,k<60→Gen (d+1) false (.node (K:Int) 0 (aK k) xs)):=Hd (fun k hk=>by have h:=HG0.out;rw[h3] at h ⊢;exact gen3 h hk)
    clear h3
    go_wp2_with (first
     |(go_at_call 118;go_must (refine(HAR.out _).mono ?_;rintro e w' ⟨rfl,rfl⟩))
     |(go_at_call 117;go_must (refine(HN60.out _ (HA.out.drawn.1.below blw)).mono ?_;rintro e W2 ⟨k2,rfl,hk2,hd2⟩;have HK2:=Hd hk2;have hd3:aQ sb B wr W2:=((aQ.refl HA.out.drawn.1).below blw).trans hd2;have HD3:=Hd hd3;clear hd2 hk2;have hrx:=hd3.row HOX.out HXN.out;have hrr:=hd3.row HRW.out HNE.out;have HRX:=Hd hrx;have HRR:=Hd hrr;clear hrx hrr hd3))
     |(go_at_call 20;go_must (refine(HSE.out k2 _ HK2.out).mono ?_;rintro e W3 ⟨rfl,hb⟩;have hrx:=(hb.block _ (gLt HRX.out)).trans HRX.out;have hrr:=(hb.block _ (gLt HRR.out)).trans HRR.out;have HD4:Hid (aQ sb B wr W3):=Hd (HD3.out.below hb);have x0:=aA hrx 0;have x1:=aA hrx 1;have x2:=aA hrx 2;have x3:=aA hrx 3;have r0:=aA hrr 0;have r1:=aA hrr 1;have r2:=aA hrr 2;have r3:=aA hrr 3;have fx:∀o,W3.frozen? ⟨W1.heap.size,o,none⟩=false:=fun o=>fH hrx o;have fr:∀o,W3.frozen? ⟨w.heap.size,o,none⟩=false:=fun o=>fH hrr o;have lx:=(gLt hrx);have lr:=(gLt hrr);clear hrx hrr hb)))
    refine bodyPost_ret (v:=.agg #[.int .i64 (K:Int),.int .i64 0,.string (aK k2),.slice A i c]) (by simp[results,results56,go_sem, *]) rfl ?_
    exact gA 0 (aK k2) (Nat.le_of_lt HXw.out) HSB.out HOW.out HTR.out HLN.out HD4.out (fun b h1 h2=>(sW HXw.out h1 _ _ _ _).trans (aG _ ⟨W1.heap.size,2,none⟩ _ b (Nat.ne_of_gt h1))) (kC ((HA.out.drawn.trans HD4.out).set HB.out (p:=⟨W1.heap.size,2,none⟩) (Nat.le_of_lt HXw.out) _) HB.out nR _ _ _ _) (HG.out k2 HK2.out)
   by_cases h4:K=4
   ·have x3:((K:Int)==3)=false:=bN (by omega)
    have x4:((K:Int)==4)=true:=by rw[h4];rfl
    have HG:Hid (∀k:Nat,k<3000→Gen (d+1) false (.node (K:Int) k ⟨#[]⟩ xs)):=Hd (fun k hk=>by have h:=HG0.out;rw[h4] at h ⊢;exact gen4 h hk)
    clear h4
    clear h3
    go_wp2_with (first
     |(go_at_call 118;go_must (refine(HAR.out _).mono ?_;rintro e w' ⟨rfl,rfl⟩))
     |(go_at_call 117;go_must (refine(HN3000.out _ (HA.out.drawn.1.below blw)).mono ?_;rintro e W2 ⟨k2,rfl,hk2,hd2⟩;have HK2:=Hd hk2;have hd3:aQ sb B wr W2:=((aQ.refl HA.out.drawn.1).below blw).trans hd2;have HD3:=Hd hd3;clear hd2 hk2;have hrx:=hd3.row HOX.out HXN.out;have hrr:=hd3.row HRW.out HNE.out;have x0:=aA hrx 0;have x1:=aA hrx 1;have x2:=aA hrx 2;have x3:=aA hrx 3;have r0:=aA hrr 0;have r1:=aA hrr 1;have r2:=aA hrr 2;have r3:=aA hrr 3;have fx:∀o,W2.frozen? ⟨W1.heap.size,o,none⟩=false:=fun o=>fH hrx o;have fr:∀o,W2.frozen? ⟨w.heap.size,o,none⟩=false:=fun o=>fH hrr o;have lx:=(gLt hrx);have lr:=(gLt hrr);clear hrx hrr hd3)))
    refine bodyPost_ret (v:=.agg #[.int .i64 (K:Int),.int .i64 (k2:Int),.string ⟨#[]⟩,.slice A i c]) (by simp[results,results56,go_sem, *]) rfl ?_
    exact gA (k2:Int) ⟨#[]⟩ (Nat.le_of_lt HXw.out) HSB.out HOW.out HTR.out HLN.out HD3.out (fun b h1 h2=>(sW HXw.out h1 _ _ _ _).trans (aG _ ⟨W1.heap.size,1,none⟩ _ b (Nat.ne_of_gt h1))) (kC ((HA.out.drawn.trans HD3.out).set HB.out (p:=⟨W1.heap.size,1,none⟩) (Nat.le_of_lt HXw.out) _) HB.out nR _ _ _ _) (HG.out k2 HK2.out)
   by_cases h5:K=5
   ·have x3:((K:Int)==3)=false:=bN (by omega)
    have x4:((K:Int)==4)=false:=bN (by omega)
    have x5:((K:Int)==5)=true:=by rw[h5];rfl
    have HG:Hid (∀k:Nat,k<3000→Gen (d+1) false (.node (K:Int) k ⟨#[]⟩ xs)):=Hd (fun k hk=>by have h:=HG0.out;rw[h5] at h ⊢;exact gen5 h hk)
    clear h5
    clear h3 h4
    go_wp2_with (first
     |(go_at_call 118;go_must (refine(HAR.out _).mono ?_;rintro e w' ⟨rfl,rfl⟩))
     |(go_at_call 117;go_must (refine(HN3000.out _ (HA.out.drawn.1.below blw)).mono ?_;rintro e W2 ⟨k2,rfl,hk2,hd2⟩;have HK2:=Hd hk2;have hd3:aQ sb B wr W2:=((aQ.refl HA.out.drawn.1).below blw).trans hd2;have HD3:=Hd hd3;clear hd2 hk2;have hrx:=hd3.row HOX.out HXN.out;have hrr:=hd3.row HRW.out HNE.out;have x0:=aA hrx 0;have x1:=aA hrx 1;have x2:=aA hrx 2;have x3:=aA hrx 3;have r0:=aA hrr 0;have r1:=aA hrr 1;have r2:=aA hrr 2;have r3:=aA hrr 3;have fx:∀o,W2.frozen? ⟨W1.heap.size,o,none⟩=false:=fun o=>fH hrx o;have fr:∀o,W2.frozen? ⟨w.heap.size,o,none⟩=false:=fun o=>fH hrr o;have lx:=(gLt hrx);have lr:=(gLt hrr);clear hrx hrr hd3)))
    refine bodyPost_ret (v:=.agg #[.int .i64 (K:Int),.int .i64 (k2:Int),.string ⟨#[]⟩,.slice A i c]) (by simp[results,results56,go_sem, *]) rfl ?_
    exact gA (k2:Int) ⟨#[]⟩ (Nat.le_of_lt HXw.out) HSB.out HOW.out HTR.out HLN.out HD3.out (fun b h1 h2=>(sW HXw.out h1 _ _ _ _).trans (aG _ ⟨W1.heap.size,1,none⟩ _ b (Nat.ne_of_gt h1))) (kC ((HA.out.drawn.trans HD3.out).set HB.out (p:=⟨W1.heap.size,1,none⟩) (Nat.le_of_lt HXw.out) _) HB.out nR _ _ _ _) (HG.out k2 HK2.out)
   by_cases h6:K=6
   ·have x3:((K:Int)==3)=false:=bN (by omega)
    have x4:((K:Int)==4)=false:=bN (by omega)
    have x5:((K:Int)==5)=false:=bN (by omega)
    have x6:((K:Int)==6)=true:=by rw[h6];rfl
    have HG:Hid (∀k:Nat,k<12000→Gen (d+1) false (.node (K:Int) k ⟨#[]⟩ xs)):=Hd (fun k hk=>by have h:=HG0.out;rw[h6] at h ⊢;exact gen6 h hk)
    clear h6
    clear h3 h4 h5
    go_wp2_with (first
     |(go_at_call 118;go_must (refine(HAR.out _).mono ?_;rintro e w' ⟨rfl,rfl⟩))
     |(go_at_call 117;go_must (refine(HN12000.out _ (HA.out.drawn.1.below blw)).mono ?_;rintro e W2 ⟨k2,rfl,hk2,hd2⟩;have HK2:=Hd hk2;have hd3:aQ sb B wr W2:=((aQ.refl HA.out.drawn.1).below blw).trans hd2;have HD3:=Hd hd3;clear hd2 hk2;have hrx:=hd3.row HOX.out HXN.out;have hrr:=hd3.row HRW.out HNE.out;have x0:=aA hrx 0;have x1:=aA hrx 1;have x2:=aA hrx 2;have x3:=aA hrx 3;have r0:=aA hrr 0;have r1:=aA hrr 1;have r2:=aA hrr 2;have r3:=aA hrr 3;have fx:∀o,W2.frozen? ⟨W1.heap.size,o,none⟩=false:=fun o=>fH hrx o;have fr:∀o,W2.frozen? ⟨w.heap.size,o,none⟩=false:=fun o=>fH hrr o;have lx:=(gLt hrx);have lr:=(gLt hrr);clear hrx hrr hd3)))
    refine bodyPost_ret (v:=.agg #[.int .i64 (K:Int),.int .i64 (k2:Int),.string ⟨#[]⟩,.slice A i c]) (by simp[results,results56,go_sem, *]) rfl ?_
    exact gA (k2:Int) ⟨#[]⟩ (Nat.le_of_lt HXw.out) HSB.out HOW.out HTR.out HLN.out HD3.out (fun b h1 h2=>(sW HXw.out h1 _ _ _ _).trans (aG _ ⟨W1.heap.size,1,none⟩ _ b (Nat.ne_of_gt h1))) (kC ((HA.out.drawn.trans HD3.out).set HB.out (p:=⟨W1.heap.size,1,none⟩) (Nat.le_of_lt HXw.out) _) HB.out nR _ _ _ _) (HG.out k2 HK2.out)
   have x3:((K:Int)==3)=false:=bN (by omega)
   have x4:((K:Int)==4)=false:=bN (by omega)
   have x5:((K:Int)==5)=false:=bN (by omega)
   have x6:((K:Int)==6)=false:=bN (by omega)
   have HG:Hid (vM d K xs∧K≠3∧K≠4∧K≠5∧K≠6):=Hd ⟨HG0.out,h3,h4,h5,h6⟩
   clear h3 h4 h5 h6
   have hrx:=HOX.out
   have hrr:=HRW.out
   have x0:=aA hrx 0
   have x1:=aA hrx 1
   have x2:=aA hrx 2
   have x3:=aA hrx 3
   have r0:=aA hrr 0
   have r1:=aA hrr 1
   have r2:=aA hrr 2
   have r3:=aA hrr 3
   have fx:∀o,wr.frozen? ⟨W1.heap.size,o,none⟩=false:=fun o=>fH hrx o
   have fr:∀o,wr.frozen? ⟨w.heap.size,o,none⟩=false:=fun o=>fH hrr o
   have lx:=(gLt hrx)
   have lr:=(gLt hrr)
   clear hrx hrr
   go_wp2_with (first
    |(go_at_call 118;go_must (refine(HAR.out _).mono ?_;rintro e w' ⟨rfl,rfl⟩)))
   refine bodyPost_ret (v:=.agg #[.int .i64 (K:Int),.int .i64 0,.string ⟨#[]⟩,.slice A i c]) (by simp[results,results56,go_sem, *]) rfl ?_
   exact gA 0 ⟨#[]⟩ (Nat.le_of_lt HXw.out) HSB.out HOW.out HTR.out HLN.out HD0.out (fun b h1 h2=>sW HXw.out h1 _ _ _ _) (kC (HA.out.drawn.trans HD0.out) HB.out nR _ _ _ _) (genE HG.out)
theorem wZ:∀d,1≤d→d≤9→HExp d
 |0,h,_=>absurd h (by decide)
 |1,_,_=>fun cond sb B w h=>by
  cases cond with
  |true=>exact aEv sb B w h
  |false=>exact aAl sb B w h
 |d+2,_,h9=>fun cond sb B w h=>by
  have ih:=wZ (d+1) (by omega) (by omega)
  cases cond with
  |true=>exact aIz (d+1) (by omega) _ (by omega) (by omega) ih sb B w h
  |false=>exact aEw (d+1) (by omega) _ (by omega) (by omega) ih sb B w h
end Go.Proofs.YtlibhkkckgkkkaaGreatDoor.Tf
namespace Go.Proofs.YtlibhkkckgkkkaaGreatDoor.Tf
open Go.RowKit Go.Proofs.YtlibhkkckgkkkaaGreatDoor.Mem Go.Proofs.YtlibhkkckgkkkaaGreatDoor.Boo
theorem aT.step {B:Nat} {w W W':World} (hB:B≤w.heap.size) (h:aT B w W) (k:Below W.heap.size W W'):aT B w W':=h.trans (aT.ofB (Nat.le_trans hB h.size) k)
theorem aT.setT {B mb:Nat} {w W:World} {cs:Array Value} {t:TypeId} {fz:Nat×Nat} (h:aT B w W) (hm:W.heap[mb]?=some (.cells cs t fz)) (ht:t∉akL) (hB:B≤mb) (k:Nat) (v:Value):aT B w (W.setCell ⟨mb,k,none⟩ v):=by
 refine⟨aH h.below (p:=⟨mb,k,none⟩) hB v,fun i cs' t' fz' ht' hi=>?_,by simpa[World.setCell] using h.size⟩
 have hW:=h.other i cs' t' fz' ht' hi
 by_cases e:i=mb
 ·subst e
  rw[hm] at hW
  injection hW with hW
  injection hW with _ e2 _
  subst e2
  exact absurd ht' ht
 ·exact(aG W ⟨mb,k,none⟩ v i e).trans hW
theorem aT.setN {B:Nat} {w W:World} (h:aT B w W) {p:Addr} (hB:B≤w.heap.size) (hp:w.heap.size≤p.block) (v:Value):aT B w (W.setCell p v):=
 ⟨aH h.below (Nat.le_trans hB hp) v,fun i cs t fz ht hi=>(aG W p v i (by have:=(gLt hi);omega)).trans (h.other i cs t fz ht hi),by simpa[World.setCell] using h.size⟩
theorem aT.ofQ {B hb pb db:Nat} {w w':World} {qb:Nat} {xs:List (Int×Int)} (h:fB qb hb pb db B xs w) (k:iE hb pb db B w w'):aT B w w':=
 ⟨k.below,fun i cs t fz ht hi=>k.cellsB h hi (by rintro rfl;exact absurd ht (by decide)) (by rintro rfl;exact absurd ht (by decide)),k.size⟩
theorem mG {W W':World} (k:W.grownBy W' (Value.slice none 0 0).ownBlock):Below W.heap.size W W':=bV bR k (fun r hr=>by cases hr)
theorem eU {α:Type} (d:En α) (W:World) (e:TypeId) (cs:Array Value) (x:α) (hc:cs.toList=d.enc x):d.At (W.alloc (.cells cs e)) (some ⟨W.heap.size,0,none⟩) 1 [x]:=
 (En.Own.lit d W 0 e cs [x] (Nat.zero_le _) (by simp) (by rw[hc];simp[En.cs])).at_
def Ker (ts:List TypeId) (w w':World):Prop:=∀(i:Nat) (o:Obj),w.heap[i]?=some o→(∀c t f,o=.cells c t f→t∉ts)→w'.heap[i]?=some o
section
variable {ts:List TypeId} {w w' W:World}
theorem Ker.refl (ts:List TypeId) (w:World):Ker ts w w:=fun _ _ h _=>h
theorem Ker.trans (h:Ker ts w W) (k:Ker ts W w'):Ker ts w w':=fun i o hi ho=>k i o (h i o hi ho) ho
theorem Ker.of (k:Below w.heap.size w w'):Ker ts w w':=fun i _ hi _=>(k.block i (gLt hi)).trans hi
theorem Ker.set {b:Nat} {cs:Array Value} {t:TypeId} {fz:Nat×Nat} (hb:w.heap[b]?=some (.cells cs t fz)) (ht:t∈ts) (k:Nat) (v:Value):Ker ts w (w.setCell ⟨b,k,none⟩ v):=fun i o hi ho=>by
 by_cases e:i=b
 ·subst e
  rw[hb] at hi
  cases hi
  exact absurd ht (ho cs t fz rfl)
 ·exact(aG w ⟨b,k,none⟩ v i e).trans hi
theorem Ker.cells {b:Nat} {cs:Array Value} {t:TypeId} {fz:Nat×Nat} (h:Ker ts w w') (hb:w.heap[b]?=some (.cells cs t fz)) (ht:t∉ts):w'.heap[b]?=some (.cells cs t fz):=h b _ hb (fun c t' f e=>by cases e;exact ht)
theorem Ker.map {b:Nat} {es:Array MapEntry} {k:Nat} (h:Ker ts w w') (hb:w.heap[b]?=some (.map es k)):w'.heap[b]?=some (.map es k):=h b _ hb (fun c t' f e=>by cases e)
theorem Ker.own {α:Type} {d:En α} {e:TypeId} {base c:Nat} {A:Option Addr} {xs:List α} (h:Ker ts w w') (ho:d.Own e w base A c xs) (he:e∉ts):d.Own e w' base A c xs:=
 rQ ho (fun r o hr hi=>by
  obtain⟨cur,fz,hg⟩:=Lib.ownsRow_kind ho r hr
  rw[hg] at hi
  cases hi
  exact h.cells hg he)
theorem fB.ker {qb hb pb db B:Nat} {xs:List (Int×Int)} (q:fB qb hb pb db B xs w) (h:Ker ts w w') (h1:228∉ts) (h2:135∉ts) (h3:253∉ts):fB qb hb pb db B xs w':=by
 obtain⟨q1,q2,⟨clk,q3⟩,q4,q5⟩:=q
 obtain⟨A,c,es,clk2,a1,a2,a3,a4⟩:=q2.ex
 exact⟨h.cells q1 h2,⟨A,c,es,clk2,h.cells a1 h1,h.own a2 h3,h.map a3,a4⟩,⟨clk,h.map q3⟩,q4,q5⟩
theorem SkAt.ker {sb:Nat} {s:ByteArray} {g b:Value} {l a:Int} {r:Value} {z:Int} {cur:Array Value} (k:SkAt sb s g b l a r z w) (hk:w.heap[sb]?=some (.cells cur 143 (0,0))) (h:Ker ts w w') (h1:143∉ts):SkAt sb s g b l a r z w':=by
 have e:=h.cells hk h1
 have c:∀i,w'.cell? ⟨sb,i,none⟩=w.cell? ⟨sb,i,none⟩:=fun i=>by rw[aA e,aA hk]
 obtain⟨k0,k1,k2,k3,k4,k5,k6⟩:=k
 exact⟨by rw[c];exact k0,by rw[c];exact k1,by rw[c];exact k2,by rw[c];exact k3,by rw[c];exact k4,by rw[c];exact k5,by rw[c];exact k6⟩
end
theorem iE.ker {qb hb pb db B:Nat} {xs:List (Int×Int)} {w w':World} (h:fB qb hb pb db B xs w) (k:iE hb pb db B w w') {i:Nat} {cs:Array Value} {t:TypeId} {fz:Nat×Nat} (hi:w.heap[i]?=some (.cells cs t fz)) (ht:t≠228∧t≠253):w'.heap[i]?=some (.cells cs t fz):=k.cellsB h hi ht.1 ht.2
abbrev aX:ByteArray:=⟨#[109,117,103]⟩
def dM:En Out.dV:=⟨fun m=>[.int .i64 m.s,.int .i64 m.v,.int .i64 m.p],3,by omega,fun _=>rfl,fun x u hu=>by simp at hu;rcases hu with rfl|rfl|rfl <;> rfl⟩
structure Mst where
 C:Option Cf
 bk:List eG
 se:List fA
 ou:List Out.bH
 sh:List (Int×Int)
 ml:List Out.dV
 fr:Bool
 wt:Bool
structure Mp where
 B:Nat
 mb:Nat
 qb:Nat
 hb:Nat
 pb:Nat
 db:Nat
structure Sp where
 sb:Nat
 g:Option Addr
 bA:Option Addr
 bc:Nat
 l:Int
 a:Int
 rA:Option Addr
 rn:Nat
 rc:Nat
 z:Int
abbrev Cf.arr (C:Cf):Array Value:=#[.int .i64 C.lo,.int .i64 C.hi,.int .i64 C.co,.int .i64 C.a,.int .i64 C.b,.string (bl (aM C.x))]
structure bQ (P:Mp) (M:Mst) (S:Sp) (w:World):Prop where
 box:∃(sc:Nat) (NA:Option Addr) (nc:Nat) (OA:Option Addr) (oc:Nat) (HA:Option Addr) (hc:Nat) (MA:Option Addr) (mc:Nat),w.heap[P.mb]?=some (.cells #[.int .i64 0,.slice (some ⟨S.sb,0,none⟩) 1 sc,.slice NA M.se.length nc,.pointer (some ⟨P.qb,0,none⟩),.slice OA M.ou.length oc,.slice HA M.sh.length hc,.slice MA M.ml.length mc,.int .i64 0] 73 (0,0))∧
  dN.Own 239 w P.B NA nc M.se∧Out.dO.Own 145 w P.B OA oc M.ou∧dSh.Own 147 w P.B HA hc M.sh∧dM.Own 170 w P.B MA mc M.ml∧1≤sc∧sc≤9223372036854775807
 sk:SkAt S.sb aX (.pointer S.g) (.slice S.bA M.bk.length S.bc) S.l S.a (.slice S.rA S.rn S.rc) S.z w
 kind:∃cur,w.heap[S.sb]?=some (.cells cur 143 (0,0))
 los:P.B≤S.sb
 cfg:match M.C with
  |none=>S.g=none
  |some C=>∃gb,S.g=some ⟨gb,0,none⟩∧w.heap[gb]?=some (.cells C.arr 27 (0,0))
 bk:dL.Own 249 w P.B S.bA S.bc M.bk
 fr:M.fr=true→S.l=0∧S.a=0∧S.rA=none∧S.rn=0∧S.rc=0∧S.z=0
 queue:∃xs,fB P.qb P.hb P.pb P.db P.B xs w∧(if M.wt then ∃q,xs=[(0,q)] else xs=[])
 lo:P.B≤P.mb
def Md (P:Mp) (M:Mst) (w:World):Prop:=∃S,bQ P M S w
section
variable {P:Mp} {M:Mst} {S:Sp} {w w':World}
theorem bQ.ker {ts:List TypeId} (h:bQ P M S w) (k:Ker ts w w') (ht:[73,239,145,147,170,143,27,249,228,135,253].all (fun t=>!ts.contains t)=true):bQ P M S w':=by
 have T:∀t,t∈[73,239,145,147,170,143,27,249,228,135,253]→t∉ts:=fun t h1 h2=>by
  have:=List.all_eq_true.1 ht t h1
  rw[List.contains_iff_mem.2 h2] at this
  cases this
 obtain⟨⟨sc,NA,nc,OA,oc,HA,hc,MA,mc,h1,h2,h3,h4,h5,h6⟩,hs,⟨cur,hk⟩,h8,h9,h10,h11,⟨xs,q1,q2⟩,hl⟩:=h
 refine⟨⟨sc,NA,nc,OA,oc,HA,hc,MA,mc,k.cells h1 (T _ (by decide)),k.own h2 (T _ (by decide)),k.own h3 (T _ (by decide)),k.own h4 (T _ (by decide)),k.own h5 (T _ (by decide)),h6⟩,hs.ker hk k (T _ (by decide)),⟨cur,k.cells hk (T _ (by decide))⟩,h8,?_,k.own h10 (T _ (by decide)),h11,⟨xs,q1.ker k (T _ (by decide)) (T _ (by decide)) (T _ (by decide)),q2⟩,hl⟩
 cases hC:M.C with
 |none=>rw[hC] at h9;exact h9
 |some C=>
  rw[hC] at h9
  obtain⟨gb,g1,g2⟩:=h9
  exact⟨gb,g1,k.cells g2 (T _ (by decide))⟩
theorem bQ.below (h:bQ P M S w) (k:Below w.heap.size w w'):bQ P M S w':=h.ker (Ker.of (ts:=[]) k) (by decide)
theorem Md.ker {ts:List TypeId} (h:Md P M w) (k:Ker ts w w') (ht:[73,239,145,147,170,143,27,249,228,135,253].all (fun t=>!ts.contains t)=true):Md P M w':=h.imp fun _ h=>h.ker k ht
theorem Md.below (h:Md P M w) (k:Below w.heap.size w w'):Md P M w':=h.imp fun _ h=>h.below k
theorem bQ.lt (h:bQ P M S w):P.mb<w.heap.size∧S.sb<w.heap.size∧P.B≤w.heap.size:=by
 obtain⟨sc,NA,nc,OA,oc,HA,hc,MA,mc,h1,_⟩:=h.box
 obtain⟨cur,hk⟩:=h.kind
 have a:=(gLt h1)
 have:=h.lo
 exact⟨a,(gLt hk),by omega⟩
theorem bQ.asked (h:bQ P M S w) (q:∃q,fB P.qb P.hb P.pb P.db P.B [(0,q)] w') (k:iE P.hb P.pb P.db P.B w w'):bQ P {M with wt:=true} S w':=by
 obtain⟨⟨sc,NA,nc,OA,oc,HA,hc,MA,mc,h1,h2,h3,h4,h5,h6⟩,hs,⟨cur,hk⟩,h8,h9,h10,h11,⟨xs,q1,q2⟩,hl⟩:=h
 obtain⟨q,hq⟩:=q
 have e:=k.cellsB q1 hk (by decide) (by decide)
 have c:∀i,w'.cell? ⟨S.sb,i,none⟩=w.cell? ⟨S.sb,i,none⟩:=fun i=>by rw[aA e,aA hk]
 obtain⟨k0,k1,k2,k3,k4,k5,k6⟩:=hs
 refine⟨⟨sc,NA,nc,OA,oc,HA,hc,MA,mc,k.cellsB q1 h1 (by decide) (by decide),k.own q1 h2 (by decide) (by decide),k.own q1 h3 (by decide) (by decide),k.own q1 h4 (by decide) (by decide),k.own q1 h5 (by decide) (by decide),h6⟩,⟨by rw[c];exact k0,by rw[c];exact k1,by rw[c];exact k2,by rw[c];exact k3,by rw[c];exact k4,by rw[c];exact k5,by rw[c];exact k6⟩,⟨cur,e⟩,h8,?_,k.own q1 h10 (by decide) (by decide),h11,⟨_,hq,⟨q,rfl⟩⟩,hl⟩
 dsimp only
 cases hC:M.C with
 |none=>rw[hC] at h9;exact h9
 |some C=>
  rw[hC] at h9
  obtain⟨gb,g1,g2⟩:=h9
  exact⟨gb,g1,k.cellsB q1 g2 (by decide) (by decide)⟩
theorem bQ.taken (h:bQ P M S w) {xs:List (Int×Int)} (q1:fB P.qb P.hb P.pb P.db P.B xs w) (hq:fB P.qb P.hb P.pb P.db P.B [] w') (k:iE P.hb P.pb P.db P.B w w'):bQ P {M with wt:=false} S w':=by
 obtain⟨⟨sc,NA,nc,OA,oc,HA,hc,MA,mc,h1,h2,h3,h4,h5,h6⟩,hs,⟨cur,hk⟩,h8,h9,h10,h11,_,hl⟩:=h
 have e:=k.cellsB q1 hk (by decide) (by decide)
 have c:∀i,w'.cell? ⟨S.sb,i,none⟩=w.cell? ⟨S.sb,i,none⟩:=fun i=>by rw[aA e,aA hk]
 obtain⟨k0,k1,k2,k3,k4,k5,k6⟩:=hs
 refine⟨⟨sc,NA,nc,OA,oc,HA,hc,MA,mc,k.cellsB q1 h1 (by decide) (by decide),k.own q1 h2 (by decide) (by decide),k.own q1 h3 (by decide) (by decide),k.own q1 h4 (by decide) (by decide),k.own q1 h5 (by decide) (by decide),h6⟩,⟨by rw[c];exact k0,by rw[c];exact k1,by rw[c];exact k2,by rw[c];exact k3,by rw[c];exact k4,by rw[c];exact k5,by rw[c];exact k6⟩,⟨cur,e⟩,h8,?_,k.own q1 h10 (by decide) (by decide),h11,⟨_,hq,rfl⟩,hl⟩
 dsimp only
 cases hC:M.C with
 |none=>rw[hC] at h9;exact h9
 |some C=>
  rw[hC] at h9
  obtain⟨gb,g1,g2⟩:=h9
  exact⟨gb,g1,k.cellsB q1 g2 (by decide) (by decide)⟩
end
end Go.Proofs.YtlibhkkckgkkkaaGreatDoor.Tf
namespace Go.Proofs.YtlibhkkckgkkkaaGreatDoor.Tf
open Go.RowKit Go.Proofs.YtlibhkkckgkkkaaGreatDoor.Mem Go.Proofs.YtlibhkkckgkkkaaGreatDoor.Boo Go.Proofs.Tryz
theorem pH (k:Int) (xs:List Int):(eL k xs).length=xs.length+1:=by simp[eL]
theorem zN {k:Int} {xs:List Int} {i:Nat} {x:Int} (h:xs[i]?=some x):eL k (xs.take (i+1))=eL k (xs.take i)++[bP x]:=by
 obtain⟨hi,rfl⟩:=List.getElem?_eq_some_iff.1 h
 unfold eL
 rw[List.take_succ_eq_append_getElem hi]
 simp only[List.map_cons,List.map_append,List.map_nil,List.cons_append]
theorem kG {i m:Nat} (h:i<m):m-(intOf (.int .i64 ((i+1:Nat):Int))).toNat<m-(intOf (.int .i64 (i:Int))).toNat:=by simp[intOf];omega
theorem aRh:(prog.info? 9).map (fun i=>(i.zero,i.size,i.bytes))=some (some (.string ⟨#[]⟩),1,16):=by kernel_rfl
theorem xY (k:Int) (A:Option Addr) (c n:Nat) (xs:List Int) (t:ByteArray) (hn:xs.length=n) (h:lM k xs t) (hj:(Lib.join ((eL k xs).map (·.data.toList)) [32]).length≤1000) (w:World) (G:Gl w) (hat:dZ.At w A c xs):
 Calls prog 295 #[.agg #[.int .i64 k,.slice A n c,.string t]] w (Ret (.string (xZ k xs t)) w):=by
 obtain⟨h1,h2,h3,h4,h5⟩:=h
 obtain⟨i0,hi,iz,isz,iby⟩:=info_parts aRh
 have HG:=Hd G
 have HK:Hid (∀W,Below w.heap.size w W→Calls prog 196 #[.int .i64 k] W (Ret (.string (bP k)) W)):=Hd (fun W hW=>gD k ⟨by omega,by omega⟩ W (G.below hW))
 have HNU:Hid (∀x∈xs,∀W,Below w.heap.size w W→Calls prog 196 #[.int .i64 x] W (Ret (.string (bP x)) W)):=Hd (fun x hx W hW=>gD x ⟨by have:=(h4 x hx).1;omega,by have:=(h4 x hx).2;omega⟩ W (G.below hW))
 have HAT:=Hd hat
 have HN:=Hd hn
 have HN20:Hid (n≤20):=Hd (by omega)
 obtain⟨J,hJ⟩:∃J:ByteArray,(⟨(Lib.join ((eL k xs).map (·.data.toList)) [32]).toArray⟩:ByteArray)=J:=⟨_,rfl⟩
 have hJs:J.size≤1000:=by rw[←hJ];simpa[ByteArray.size] using hj
 have hR:xZ k xs t=J++⟨#[58]⟩++t:=by unfold xZ;rw[hJ]
 rw[hR]
 have s58:(ByteArray.mk #[58]).size=1:=rfl
 have a0:∀W,(Op.stringOp .add J ⟨#[58]⟩).run prog W=.ok (.string (J++⟨#[58]⟩)) W:=fun W=>run_string_add_sum W _ _ (by omega)
 have a1:∀W,(Op.stringOp .add (J++⟨#[58]⟩) t).run prog W=.ok (.string (J++⟨#[58]⟩++t)) W:=fun W=>run_string_add_sum W _ _ (by rw[ByteArray.size_append];omega)
 have HJO:Hid (∀bk o cc W,(∀(j:Nat) x,(eL k xs)[j]?=some x→W.cell? ⟨bk,o+j,none⟩=some (.string x))→bk<W.heap.size→n+1≤cc→Calls prog 322 #[.slice (some ⟨bk,o,none⟩) (n+1) cc,.string ⟨#[32]⟩] W (Ret (.string J) W)):=Hd (fun bk o cc W hc hb hcc=>by
  have hl:=pH k xs
  have:=Tryz.strings_Join bk o cc (eL k xs) ⟨#[32]⟩ W hc hb (by omega) (by omega) (by show(Lib.join ((eL k xs).map (·.data.toList)) [32]).length≤_;omega)
  rw[show(Lib.join ((eL k xs).map (·.data.toList)) (ByteArray.mk #[32]).data.toList)=Lib.join ((eL k xs).map (·.data.toList)) [32] from rfl,hJ,hl,hn] at this
  exact this)
 clear h1 h2 h3 h4 h5 hat hn hj hJ hJs hR s58 G
 go_enter func295,ntmps295
 go_wp2_with (go_at_call 196;go_must (refine(HK.out _ blw).mono ?_;rintro e W1 ⟨rfl,hb⟩;have hr:W1.heap[w.heap.size]?=some (.cells #[.int .i64 k,.slice A n c,.string t] 288 (0,0)):=(hb.block _ (by simp)).trans (aN w _);have HB1:=bst w hb;have HR1:=Hd hr;have kc1:W1.cell? ⟨w.heap.size,1,none⟩=some (.slice A n c):=aA hr 1;have kl1:=(gLt hr);clear hb hr))
 have HS1:Hid (w.heap.size+1≤W1.heap.size):=Hd kl1
 have HR2:Hid ((W1.alloc (.cells #[.string (bP k)] 9)).heap[w.heap.size]?=some (.cells #[.int .i64 k,.slice A n c,.string t] 288 (0,0))):=Hd ((Below.heap_alloc _ _ _ kl1).trans HR1.out)
 have HO0:Hid (dT.Own 9 (W1.alloc (.cells #[.string (bP k)] 9)) (w.heap.size+1) (some ⟨W1.heap.size,0,none⟩) 1 (eL k (xs.take 0))):=Hd (En.Own.lit dT W1 (w.heap.size+1) 9 _ [bP k] HS1.out (by simp) (by simp[En.cs,dT]))
 go_loopw [3,13] (fun sv iv wr=>∃(i:Nat) (A':Option Addr) (c':Nat),i≤n∧iv=.int .i64 i∧sv=.slice A' (i+1) c'∧Hid (dT.Own 9 wr (w.heap.size+1) A' c' (eL k (xs.take i)))∧Hid (Below w.heap.size w wr)∧Hid (wr.heap[w.heap.size]?=some (.cells #[.int .i64 k,.slice A n c,.string t] 288 (0,0)))) (fun _ iv _=>n-(intOf iv).toNat)
 case atStart=>exact⟨0,_,_,Nat.zero_le _,rfl,rfl,HO0,Hd blw,HR2⟩
 case round=>
  obtain⟨i,A',c',him,rfl,rfl,HOW,HB,HRW⟩:=hrel
  obtain⟨V,hv⟩:∃x,x=wr:=⟨_,rfl⟩
  subst hv
  by_cases hlt:i<n
  ·have hxi:xs[i]?=some (xs[i]'(by have:=HN.out;omega)):=gE _
   obtain⟨b,off,rfl,hbl,c0⟩:=jZ (HAT.out.below HB.out) i _ hxi
   have HX:=HNU.out _ (List.mem_of_getElem? hxi)
   have hst:=zN (k:=k) hxi
   generalize xs[i]'(by have:=HN.out;omega)=x at c0 hxi HX hst
   have HXX:=Hd HX
   have HST:=Hd hst
   have HLT:=Hd hlt
   have HLL:Hid ((eL k (xs.take i)).length=i+1):=Hd (by rw[pH,List.length_take,HN.out];omega)
   have H63:Hid ((eL k (xs.take i)).length+1≤9223372036854775807):=Hd (by rw[HLL.out];have:=HN20.out;omega)
   have HBYT:Hid (((eL k (xs.take i)).length+1) * 16≤140737488355328):=Hd (by rw[HLL.out];have:=HN20.out;omega)
   have HZI:Hid (wrap64 ((i:Int)+1)=((i+1:Nat):Int)):=Hd (by rw[Mem.w64 (by omega) (by have:=HN20.out;omega)];omega)
   have HVS:Hid (w.heap.size+1≤V.heap.size):=Hd (gLt HRW.out)
   have zlt:(i:Int)<(n:Int):=by omega
   clear hxi HX hst hlt
   go_wp2_with (first
    |(go_at_call 196;go_must (refine rC w (HXX.out _ blw) ?_;intro W2 hb HB2;have HR2:Hid (Below V.heap.size V W2):=Hd hb;clear hb))
    |(at_builtin;refine aV dT _ rfl _ _ 61 rfl (w.heap.size+1) 9 i0 _ 16 underlying61 hi iz isz iby rfl A' c' _ (eL k (xs.take i)) rfl HLL.out.symm ?_ _ 1 1 [bP x] rfl rfl ?_ ?_ ?_ ?_ ?_;(exact(HOW.out.below HR2.out).below blw);(exact eU dT W2 9 _ (bP x) rfl);(exact H63.out);(exact HBYT.out);(exact Nat.le_trans HVS.out (Nat.le_trans HR2.out.size (show Below W2.heap.size W2 _ from blw).size));(intro A3 c3 w3 hown hg hat;rw[←HST.out] at hown;have hln:(eL k (xs.take i)++[bP x]).length=i+1+1:=(by rw[lA,HLL.out];rfl);have hbw:Below (w.heap.size+1) (W2.alloc (.cells #[.string (bP x)] 9)) w3:=bR.grown hg (Nat.le_trans HVS.out (Nat.le_trans HR2.out.size (by simp))) (fun r hr=>((HOW.out.below HR2.out).row r hr).1);have HOW3:=Hd hown;have HB5:Hid (Below w.heap.size w w3):=Hd ((aB HB2.out _).trans (aP hbw (Nat.le_succ _)));have HR5:Hid (w3.heap[w.heap.size]?=some (.cells #[.int .i64 k,.slice (some ⟨b,off,none⟩) n c,.string t] 288 (0,0))):=Hd ((hbw.block _ (Nat.lt_succ_self _)).trans ((Below.heap_alloc _ _ _ (Nat.lt_of_lt_of_le HVS.out HR2.out.size)).trans ((HR2.out.block _ HVS.out).trans HRW.out)));rw[hln];clear hown hg hat hbw hln)))
   go_roundw
   case rel=>exact⟨i+1,A3,c3,HLT.out,(by first|rw[HZI.out]|rfl|simp),rfl,HOW3,HB5,HR5⟩
   case measure=>(try rw[HZI.out]);exact kG HLT.out
  ·obtain rfl:i=n:=by omega
   have HFU:Hid (eL k (xs.take i)=eL k xs):=Hd (by rw[←HN.out,List.take_length])
   have HJ2:Hid (∀W,Below V.heap.size V W→Calls prog 322 #[.slice A' (i+1) c',.string ⟨#[32]⟩] W (Ret (.string J) W)):=Hd (fun W hW=>by
    have hoa:dT.At V A' c' (eL k xs):=by rw[←HFU.out];exact HOW.out.at_
    have hln:(eL k xs).length=i+1:=by rw[pH,HN.out]
    have hle:=hoa.le
    rw[hln] at hle
    obtain⟨bk,o,rfl,hlt,_⟩:=hoa.cell (by omega)
    refine HJO.out bk o c' W (fun jj x hx=>?_) (Nat.lt_of_lt_of_le hlt hW.size) hle
    obtain⟨b2,o2,e2,_,hc⟩:=(hoa.below hW).get jj x hx
    cases e2
    have:=hc 0 (by decide)
    simpa[dT] using this)
   have k2:V.cell? ⟨w.heap.size,2,none⟩=some (.string t):=aA HRW.out 2
   clear hlt
   go_wp2_with fail
   go_region_held3 (fun W'=>W'.cell? ⟨w.heap.size,2,none⟩=some (.string t)) (go_keep) (first
    |(go_at_call 322;go_must (refine(HJ2.out _ blw).mono ?_;rintro e W2 ⟨rfl,hb⟩;have k3:=bcl hb (w.heap.size) 2 (.string t);have HB2:=bst w hb;clear hb)))
   all_goals go_wp2_with fail
   all_goals go_ret
   all_goals exact⟨rfl,blw⟩
def dFm:En (Int×Nat×Array Value):=⟨fun x=>[.int .i64 x.1,.func (.func x.2.1) #[] x.2.2],2,by omega,fun _=>rfl,fun x u hu=>by simp at hu;rcases hu with rfl|rfl <;> rfl⟩
theorem aEi (w:World):Calls prog 194 #[.string ⟨#[115,107,117]⟩] w fun e w'=>∃A c,e=.returned (.slice A 1 c)∧dFm.At w' A c [(2,256,#[])]∧Below w.heap.size w w':=by
 go_enter func194,ntmps194
 go_wp2_with fail
 go_ret
 exact⟨_,_,rfl,eU dFm w 299 _ (2,256,#[]) rfl,blw⟩
theorem aEj (w:World):Calls prog 194 #[.string ⟨#[114,117,110]⟩] w fun e w'=>∃A c kb,e=.returned (.slice A 1 c)∧dFm.At w' A c [(0,299,#[.pointer (some ⟨kb,0,none⟩)])]∧w'.cell? ⟨kb,0,none⟩=some (.int .i64 5)∧Below w.heap.size w w':=by
 go_enter func194,ntmps194
 go_wp2_with (go_at_call 258;go_must (refine(wK 5 _).mono ?_;rintro e W1 ⟨kb,rfl,hk,hb⟩;have HB1:=bst w hb;have HK1:=Hd hk;clear hk hb))
 go_ret
 exact⟨_,_,kb,rfl,eU dFm W1 299 _ (0,299,#[.pointer (some ⟨kb,0,none⟩)]) rfl,aC (aB bR _) HK1.out,blw⟩
theorem aAc (w:World):Calls prog 194 #[.string ⟨#[115,101,110,100]⟩] w fun e w'=>∃A c kb,e=.returned (.slice A 1 c)∧dFm.At w' A c [(0,299,#[.pointer (some ⟨kb,0,none⟩)])]∧w'.cell? ⟨kb,0,none⟩=some (.int .i64 6)∧Below w.heap.size w w':=by
 go_enter func194,ntmps194
 go_wp2_with (go_at_call 258;go_must (refine(wK 6 _).mono ?_;rintro e W1 ⟨kb,rfl,hk,hb⟩;have HB1:=bst w hb;have HK1:=Hd hk;clear hk hb))
 go_ret
 exact⟨_,_,kb,rfl,eU dFm W1 299 _ (0,299,#[.pointer (some ⟨kb,0,none⟩)]) rfl,aC (aB bR _) HK1.out,blw⟩
theorem aEk (w:World):Calls prog 194 #[.string ⟨#[100,101,108,105,118,101,114]⟩] w fun e w'=>∃A c kb mb,e=.returned (.slice A 2 c)∧dFm.At w' A c [(1,298,#[.pointer (some ⟨kb,0,none⟩),.pointer (some ⟨mb,0,none⟩)]),(2,259,#[])]∧w'.cell? ⟨kb,0,none⟩=some (.int .i64 7)∧w'.cell? ⟨mb,0,none⟩=some (.int .i64 0)∧Below w.heap.size w w':=by
 go_enter func194,ntmps194
 go_wp2_with (go_at_call 257;go_must (refine(aAo 7 0 _).mono ?_;rintro e W1 ⟨kb,mb,rfl,hk,hm,hb⟩;have HB1:=bst w hb;have HK1:=Hd hk;have HM1:=Hd hm;clear hk hm hb))
 go_ret
 exact⟨_,_,kb,mb,rfl,(En.Own.lit dFm W1 0 299 _ [(1,298,#[.pointer (some ⟨kb,0,none⟩),.pointer (some ⟨mb,0,none⟩)]),(2,259,#[])] (Nat.zero_le _) (by simp) rfl).at_,aC (aB bR _) HK1.out,aC (aB bR _) HM1.out,blw⟩
theorem aEl (w:World):Calls prog 194 #[.string ⟨#[99,111,110,102,105,103]⟩] w fun e w'=>e=.returned (.slice none 0 0)∧Below w.heap.size w w':=by
 go_enter func194,ntmps194
 go_wp2_with fail
 go_ret
 exact⟨rfl,blw⟩
theorem aAd (w:World):Calls prog 194 #[.string ⟨#[111,112,101,110]⟩] w fun e w'=>e=.returned (.slice none 0 0)∧Below w.heap.size w w':=by
 go_enter func194,ntmps194
 go_wp2_with fail
 go_ret
 exact⟨rfl,blw⟩
theorem aAb (w:World):Calls prog 194 #[.string ⟨#[115,104,111,119]⟩] w fun e w'=>e=.returned (.slice none 0 0)∧Below w.heap.size w w':=by
 go_enter func194,ntmps194
 go_wp2_with fail
 go_ret
 exact⟨rfl,blw⟩
end Go.Proofs.YtlibhkkckgkkkaaGreatDoor.Tf
