/- Part of the proof of TopFeeds: LwI. -/
import Derived.Test.YtlibhkkckgkkkaaGreatDoorZBA
import Derived.Lib.QuietBelow
set_option maxHeartbeats 4000000
set_option maxRecDepth 100000
namespace Go.Proofs.YtlibhkkckgkkkaaGreatDoor.Tf
open Go.RowKit Go.Sort Go.Proofs.YtlibhkkckgkkkaaGreatDoor.Mem Go.Proofs.YtlibhkkckgkkkaaGreatDoor.Boo Go.Proofs.Tryz
theorem bB.kind {S:Nat→Prop} {W:World} {x:Ex} {u:EV} {d:Nat} {c:Bool} (h:bB S W x u) (g:Gen (d+1) c x):∃K:Nat,u.k=K∧1≤K∧K≤12∧pY u.k=c:=by
 cases h with
 |mk k n s xs A c' vs hv hat hlo hx=>
  have hn:=iU g
  obtain⟨K,h1,h2,h3⟩:=zJ hn.ok
  exact⟨K,h1,h2,h3,hn.cond⟩
theorem aM4 {d:Nat} {c:Bool} {x:Ex} (g:Gen d c x):∃e,d=e+1:=by
 cases g <;> exact⟨_,rfl⟩
theorem aDf:∀(d:Nat) (c:Bool) (x:Ex),Gen d c x→∀(deep:Int),(d:Int)≤deep→deep≤1000→∀(v:EV) (S:Nat→Prop) (w:World),bB S w x v→Calls prog 113 #[v.v,.int .i64 deep] w (Ret (.bool true) w):=by
 intro d
 induction d with
 |zero=>intro c x h;cases h
 |succ d ih=>
  intro cnd x h deep hd hd2 v S w hat0
  obtain⟨k,n,s,xs⟩:=x
  obtain⟨A,c,vs,rfl,hv,hat,hx⟩:=hat0.parts
  obtain⟨hok,hcond,hlo,hhi,hargs,hname,hsub⟩:=iU h
  obtain⟨K,rfl,hK⟩:=zJ hok
  obtain⟨m,hm⟩:∃m,xs.length=m:=⟨_,rfl⟩
  rw[hm] at hargs
  have HIH:Hid (∀(i:Nat) (x:Ex) (u:EV),xs[i]?=some x→vs[i]?=some u→(∃U:Nat,u.k=U∧1≤U∧U≤12∧pY u.k=(decide ((K:Int)=10)&&decide (i=0)))∧∀W,Below w.heap.size w W→Calls prog 113 #[u.v,.int .i64 (deep-1)] W (Ret (.bool true) W)):=Hd (fun i x u h1 h2=>by
   have hs:=hsub i x h1
   obtain⟨e,rfl⟩:=aM4 hs
   exact⟨(hx i x u h1 h2).kind hs,fun W hb=>ih _ x hs (deep-1) (by omega) (by omega) u S W ((hx i x u h1 h2).onBelow hb)⟩)
  have HAR:Hid (∀W,Calls prog 118 #[.int .i64 (K:Int)] W fun e w'=>e=.returned (.int .i64 (m:Int))∧W=w'):=Hd (fun W=>by rw[←hargs,←aQ1 K hK];exact pC K hK W)
  have HMO:Hid (∀W,Calls prog 205 #[.int .i64 (K:Int)] W fun e w'=>e=.returned (.int .i64 (aO K))∧W=w'):=Hd (fun W=>aDe K hK W)
  have HAT:=Hd hat
  have HV:Hid (vs.length=m):=Hd (hv.trans hm)
  have HM:=Hd hm
  have HMX:Hid (m≤c∧c≤9223372036854775807):=Hd ⟨by have:=hat.le;omega,hat.max⟩
  generalize aO K=mo at HMO hhi
  have z1:¬deep<1:=by omega
  have z2:¬n<0:=by omega
  have z3:¬mo<n:=by omega
  obtain⟨dp,hdp⟩:∃dp,deep-1=dp:=⟨_,rfl⟩
  rw[hdp] at HIH
  have HZ4:Hid (IntKind.i64.wrap (deep-1)=dp):=Hd (by rw[←hdp];exact IntWalk.i64_in _ ⟨by omega,by omega⟩)
  have HZ5:Hid (wrap64 (deep-1)=dp):=Hd (by rw[←hdp];exact Mem.w64 (by omega) (by omega))
  clear hdp hd hd2
  rw[hm]
  unfold EV.v
  clear hv hat hx hm ih h hok hcond hlo hhi hargs hsub hat0 hK
  rcases hname with⟨h3,hnm⟩|⟨h3,rfl⟩
  ·have HNA:=Hd (fun W=>aDd s W (by
    unfold aZ at hnm
    simp at hnm
    omega))
   rw[hnm] at HNA
   have y3:((K:Int)==3)=true:=by rw[h3];rfl
   have hne:s.toList.isEmpty=false:=by
    have:s≠ByteArray.empty:=by rintro rfl;revert hnm;decide
    exact(decide_eq_emptyBytes s).symm.trans (decide_eq_false this)
   clear h3 hnm
   go_enter func113,ntmps113
   go_wp2_with fail
   have d1:decide (deep<1)=false:=decide_eq_false (by omega)
   have d2:decide (n<0)=false:=decide_eq_false (by omega)
   have d3:decide (mo<n)=false:=decide_eq_false (by omega)
   first|go_region_held3 (fun W'=>W'.cell? ⟨w.heap.size,0,none⟩=some (.int .i64 (K:Int))∧W'.cell? ⟨w.heap.size,1,none⟩=some (.int .i64 n)∧W'.cell? ⟨w.heap.size,2,none⟩=some (.string s)∧W'.cell? ⟨w.heap.size,3,none⟩=some (.slice A m c)) (go_keep) (first
    |(go_at_call 118;go_must (refine(HAR.out _).mono ?_;rintro e wq1 ⟨rfl,rfl⟩))
    |(go_at_call 205;go_must (refine(HMO.out _).mono ?_;rintro e wq2 ⟨rfl,rfl⟩))
    |(go_at_call 206;go_must (refine rC w (HNA.out _) ?_;intro W2 hb HB2;(obtain⟨⟨kc3_0_0,kc3_0_1,kc3_0_2,kc3_0_3⟩,kl3_0,kf3_0⟩:=kb4 hb (w.heap.size) (.int .i64 (K:Int)) (.int .i64 n) (.string s) (.slice A m c));clear hb)))|fail
   clear d1 d2 d3 y3 hne
   all_goals go_wp2_with fail
   go_loopw [5] (fun iv wr=>∃i:Nat,i≤m∧iv=.int .i64 i∧Hid (Below w.heap.size w wr)∧wr.cell? ⟨w.heap.size,0,none⟩=some (.int .i64 (K:Int))∧wr.cell? ⟨w.heap.size,3,none⟩=some (.slice A m c)) (fun iv _=>m-(intOf iv).toNat)
   case atStart=>exact⟨0,Nat.zero_le _,rfl,Hd blw,(by first|assumption|(go_simp;done)),(by first|assumption|(go_simp;done))⟩
   case round=>
    obtain⟨i,him,rfl,HB,kc0,kc3⟩:=hrel
    have kl:w.heap.size<wr.heap.size:=bL wr ⟨w.heap.size,0,none⟩ kc0
    by_cases hlt:i<m
    ·have hxi:xs[i]?=some (xs[i]'(by have:=HM.out;omega)):=gE _
     have hvi:vs[i]?=some (vs[i]'(by have:=HV.out;omega)):=gE _
     obtain⟨⟨U,hU,hU1,hU2,hUc⟩,HI0⟩:=HIH.out i _ _ hxi hvi
     obtain⟨b,off,rfl,hbl,c0,c1,c2,c3⟩:=eY (HAT.out.below HB.out) i _ hvi
     generalize vs[i]'(by have:=HV.out;omega)=u at HI0 c0 c1 c2 c3 hvi hU hUc
     obtain⟨uk,un,us,uA,um,uc⟩:=u
     dsimp only at c0 c1 c2 c3 hU hUc
     subst hU
     have HCU:Hid (∀W,Calls prog 114 #[.int .i64 (U:Int)] W fun e w'=>e=.returned (.bool (pY U))∧W=w'):=Hd (fun W=>pB U ⟨hU1,hU2⟩ W)
     have HCE:=Hd hUc
     have HI:Hid (∀W,Below w.heap.size w W→Calls prog 113 #[.agg #[.int .i64 (U:Int),.int .i64 un,.string us,.slice uA um uc],.int .i64 dp] W (Ret (.bool true) W)):=Hd HI0
     have HZI:Hid (wrap64 ((i:Int)+1)=((i+1:Nat):Int)):=Hd (by rw[Mem.w64 (by omega) (by have:=HMX.out;omega)];omega)
     have zlt:(i:Int)<(m:Int):=by omega
     have HLT:=Hd hlt
     have z4:=HZ4.out
     have z5:=HZ5.out
     clear hxi hvi hlt hU1 hU2 hUc HI0
     by_cases hk:(K:Int)=10
     ·have zk:((K:Int)==10)=true:=by rw[hk];rfl
      by_cases hi0:i=0
      ·have zi0:((i:Int)==0)=true:=by rw[hi0];rfl
       have HCO:Hid (∀W,Calls prog 114 #[.int .i64 (U:Int)] W fun e w'=>e=.returned (.bool true)∧W=w'):=Hd (fun W=>by
        have:=HCU.out W
        rw[HCE.out] at this
        simpa[hk,hi0] using this)
       clear hk hi0
       go_wp2_with fail
       first|go_region_held3 (fun W'=>W'.cell? ⟨w.heap.size,0,none⟩=some (.int .i64 (K:Int))∧W'.cell? ⟨w.heap.size,3,none⟩=some (.slice (some ⟨b,off,none⟩) m c)∧W'.cell? ⟨b,off+i * 4,none⟩=some (.int .i64 (U:Int))∧W'.cell? ⟨b,off+i * 4+1,none⟩=some (.int .i64 un)∧W'.cell? ⟨b,off+i * 4+2,none⟩=some (.string us)∧W'.cell? ⟨b,off+i * 4+3,none⟩=some (.slice uA um uc)) (go_keep) (first
        |(go_at_call 114;go_must (refine(HCO.out _).mono ?_;rintro e wq4 ⟨rfl,rfl⟩))
        |(go_at_call 113;go_must (refine rC w (HI.out _ blw) ?_;intro W hb HB2;have k0:=bcl hb (w.heap.size) 0 (.int .i64 (K:Int));have k1:=bcl hb (w.heap.size) 3 (.slice (some ⟨b,off,none⟩) m c);have k2:W.cell? ⟨b,off+i * 4,none⟩=some (.int .i64 (U:Int)):=aC hb (by first|assumption|(go_simp;done));have k3:W.cell? ⟨b,off+i * 4+1,none⟩=some (.int .i64 un):=aC hb (by first|assumption|(go_simp;done));have k4:W.cell? ⟨b,off+i * 4+2,none⟩=some (.string us):=aC hb (by first|assumption|(go_simp;done));have k5:W.cell? ⟨b,off+i * 4+3,none⟩=some (.slice uA um uc):=aC hb (by first|assumption|(go_simp;done));clear hb)))|fail
       all_goals go_wp2_with fail
       go_roundw
       case rel=>exact⟨i+1,HLT.out,(by first|rw[HZI.out]|rfl|simp),HB2,k0,k1⟩
       case measure=>have:=HLT.out;(try rw[HZI.out]);simp[intOf];omega
      ·have HI0':Hid ((i:Int)≠0):=Hd (by omega)
       have HCO:Hid (∀W,Calls prog 114 #[.int .i64 (U:Int)] W fun e w'=>e=.returned (.bool false)∧W=w'):=Hd (fun W=>by
        have:=HCU.out W
        rw[HCE.out] at this
        simpa[hk,hi0] using this)
       clear hk hi0
       go_wp2_with fail
       have zi0:((i:Int)==0)=false:=bN HI0'.out
       have zi2:decide ((i:Int)=0)=false:=decide_eq_false HI0'.out
       have zi3:decide (i=0)=false:=decide_eq_false (by have:=HI0'.out;omega)
       have zi4:(i==0)=false:=bN (by have:=HI0'.out;omega)
       first|go_region_held3 (fun W'=>W'.cell? ⟨w.heap.size,0,none⟩=some (.int .i64 (K:Int))∧W'.cell? ⟨w.heap.size,3,none⟩=some (.slice (some ⟨b,off,none⟩) m c)∧W'.cell? ⟨b,off+i * 4,none⟩=some (.int .i64 (U:Int))∧W'.cell? ⟨b,off+i * 4+1,none⟩=some (.int .i64 un)∧W'.cell? ⟨b,off+i * 4+2,none⟩=some (.string us)∧W'.cell? ⟨b,off+i * 4+3,none⟩=some (.slice uA um uc)) (go_keep) (first
        |(go_at_call 114;go_must (refine(HCO.out _).mono ?_;rintro e wq5 ⟨rfl,rfl⟩))
        |(go_at_call 113;go_must (refine rC w (HI.out _ blw) ?_;intro W hb HB2;have k0:=bcl hb (w.heap.size) 0 (.int .i64 (K:Int));have k1:=bcl hb (w.heap.size) 3 (.slice (some ⟨b,off,none⟩) m c);have k2:W.cell? ⟨b,off+i * 4,none⟩=some (.int .i64 (U:Int)):=aC hb (by first|assumption|(go_simp;done));have k3:W.cell? ⟨b,off+i * 4+1,none⟩=some (.int .i64 un):=aC hb (by first|assumption|(go_simp;done));have k4:W.cell? ⟨b,off+i * 4+2,none⟩=some (.string us):=aC hb (by first|assumption|(go_simp;done));have k5:W.cell? ⟨b,off+i * 4+3,none⟩=some (.slice uA um uc):=aC hb (by first|assumption|(go_simp;done));clear hb)))|fail
       all_goals go_wp2_with fail
       go_roundw
       case rel=>exact⟨i+1,HLT.out,(by first|rw[HZI.out]|rfl|simp),HB2,k0,k1⟩
       case measure=>have:=HLT.out;(try rw[HZI.out]);simp[intOf];omega
     ·have HK10:Hid ((K:Int)≠10):=Hd hk
      have HCO:Hid (∀W,Calls prog 114 #[.int .i64 (U:Int)] W fun e w'=>e=.returned (.bool false)∧W=w'):=Hd (fun W=>by
       have:=HCU.out W
       rw[HCE.out] at this
       simpa[hk] using this)
      clear hk
      have q0:=cell_regrown kc0
      have q3:=cell_regrown kc3
      have r0:=cell_regrown c0
      have r1:=cell_regrown c1
      have r2:=cell_regrown c2
      have r3:=cell_regrown c3
      have cA:∀d os,Calls prog 114 #[.int .i64 (U:Int)] (Sort.grow (redrawn wr d) os) fun e w''=>e=.returned (.bool false)∧∃p:Regrown,w''=Sort.grow (redrawn wr p.d) p.os:=fun d os=>Calls.regrown_of ((HCO.out _).mono (fun e w' h=>⟨h.1,h.2▸bR⟩))
      have cB:∀d os,Calls prog 113 #[.agg #[.int .i64 (U:Int),.int .i64 un,.string us,.slice uA um uc],.int .i64 dp] (Sort.grow (redrawn wr d) os) fun e w''=>e=.returned (.bool true)∧∃p:Regrown,w''=Sort.grow (redrawn wr p.d) p.os:=fun d os=>Calls.regrown_of (HI.out _ (HB.out.trans (aP (below_regrown wr d os) HB.out.size)))
      go_wp2_with fail
      have zk:((K:Int)==10)=false:=bN HK10.out
      have zk2:decide ((K:Int)=10)=false:=decide_eq_false HK10.out
      have zk3:decide (K=10)=false:=decide_eq_false (by have:=HK10.out;omega)
      have zk4:(K==10)=false:=bN (by have:=HK10.out;omega)
      refine wp_region_quiet_below (by kernel_rfl) (by kernel_rfl) ?_
      repeat(go_big_quiet_step (first|(with_reducible exact cA _ _)|(with_reducible exact cB _ _)))
      refine wpQuiet_nil ?_
      intro _ hw'
      obtain⟨⟨dq,osq⟩,hw''⟩:=hw'
      subst hw''
      obtain⟨W,hW⟩:∃W,W=Sort.grow (redrawn wr dq) osq:=⟨_,rfl⟩
      have HB2:Hid (Below w.heap.size w W):=Hd (by rw[hW];exact HB.out.trans (aP (below_regrown wr dq osq) HB.out.size))
      have k0:W.cell? ⟨w.heap.size,0,none⟩=some (.int .i64 (K:Int)):=by rw[hW];exact q0 _ _
      have k1:W.cell? ⟨w.heap.size,3,none⟩=some (.slice (some ⟨b,off,none⟩) m c):=by rw[hW];exact q3 _ _
      rw[←hW]
      clear hW q0 q3 r0 r1 r2 r3 cA cB
      go_wp2_with fail
      go_roundw
      case rel=>exact⟨i+1,HLT.out,(by first|rw[HZI.out]|rfl|simp),HB2,k0,k1⟩
      case measure=>have:=HLT.out;(try rw[HZI.out]);simp[intOf];omega
    ·obtain rfl:i=m:=by omega
     clear hlt
     go_wp2_with fail
     go_ret
     exact⟨rfl,HB.out⟩
  ·have HK3:Hid ((K:Int)≠3):=Hd h3
   clear h3
   go_enter func113,ntmps113
   go_wp2_with fail
   have y3:((K:Int)==3)=false:=bN HK3.out
   have y4:decide ((K:Int)=3)=false:=decide_eq_false HK3.out
   have y5:decide (K=3)=false:=decide_eq_false (by have:=HK3.out;omega)
   have y6:(K==3)=false:=bN (by have:=HK3.out;omega)
   have d1:decide (deep<1)=false:=decide_eq_false (by omega)
   have d2:decide (n<0)=false:=decide_eq_false (by omega)
   have d3:decide (mo<n)=false:=decide_eq_false (by omega)
   have hr0:=aN w (.cells #[.int .i64 (K:Int),.int .i64 n,.string ⟨#[]⟩,.slice A m c] 51)
   have hB0:Below w.heap.size w (w.alloc (.cells #[.int .i64 (K:Int),.int .i64 n,.string ⟨#[]⟩,.slice A m c] 51)):=aB bR _
   generalize w.alloc (.cells #[.int .i64 (K:Int),.int .i64 n,.string ⟨#[]⟩,.slice A m c] 51)=W0 at hr0 hB0 ⊢
   have HB0:=Hd hB0
   have q0:=cell_regrown (aA hr0 0)
   have q1:=cell_regrown (aA hr0 1)
   have q2:=cell_regrown (aA hr0 2)
   have q3:=cell_regrown (aA hr0 3)
   have cA:∀d os,Calls prog 118 #[.int .i64 (K:Int)] (Sort.grow (redrawn W0 d) os) fun e w''=>e=.returned (.int .i64 (m:Int))∧∃p:Regrown,w''=Sort.grow (redrawn W0 p.d) p.os:=fun d os=>Calls.regrown_of ((HAR.out _).mono (fun e w' h=>⟨h.1,h.2▸bR⟩))
   have cB:∀d os,Calls prog 205 #[.int .i64 (K:Int)] (Sort.grow (redrawn W0 d) os) fun e w''=>e=.returned (.int .i64 mo)∧∃p:Regrown,w''=Sort.grow (redrawn W0 p.d) p.os:=fun d os=>Calls.regrown_of ((HMO.out _).mono (fun e w' h=>⟨h.1,h.2▸bR⟩))
   clear hr0 hB0
   refine wp_region_quiet_below (by kernel_rfl) (by kernel_rfl) ?_
   repeat(go_big_quiet_step (first|(with_reducible exact cA _ _)|(with_reducible exact cB _ _)))
   refine wpQuiet_nil ?_
   intro _ hw'
   obtain⟨⟨dq,osq⟩,hw''⟩:=hw'
   subst hw''
   have hb1:=below_regrown W0 dq osq
   have kq0:=q0 dq osq
   have kq3:=q3 dq osq
   generalize Sort.grow (redrawn W0 dq) osq=W at hb1 kq0 kq3 ⊢
   have HB1:Hid (Below w.heap.size w W):=Hd (HB0.out.trans (aP hb1 HB0.out.size))
   clear q0 q1 q2 q3 cA cB hb1
   clear d1 d2 d3 y3 y4 y5 y6
   all_goals go_wp2_with fail
   go_loopw [5] (fun iv wr=>∃i:Nat,i≤m∧iv=.int .i64 i∧Hid (Below w.heap.size w wr)∧wr.cell? ⟨w.heap.size,0,none⟩=some (.int .i64 (K:Int))∧wr.cell? ⟨w.heap.size,3,none⟩=some (.slice A m c)) (fun iv _=>m-(intOf iv).toNat)
   case atStart=>exact⟨0,Nat.zero_le _,rfl,Hd blw,(by first|assumption|(go_simp;done)),(by first|assumption|(go_simp;done))⟩
   case round=>
    obtain⟨i,him,rfl,HB,kc0,kc3⟩:=hrel
    have kl:w.heap.size<wr.heap.size:=bL wr ⟨w.heap.size,0,none⟩ kc0
    by_cases hlt:i<m
    ·have hxi:xs[i]?=some (xs[i]'(by have:=HM.out;omega)):=gE _
     have hvi:vs[i]?=some (vs[i]'(by have:=HV.out;omega)):=gE _
     obtain⟨⟨U,hU,hU1,hU2,hUc⟩,HI0⟩:=HIH.out i _ _ hxi hvi
     obtain⟨b,off,rfl,hbl,c0,c1,c2,c3⟩:=eY (HAT.out.below HB.out) i _ hvi
     generalize vs[i]'(by have:=HV.out;omega)=u at HI0 c0 c1 c2 c3 hvi hU hUc
     obtain⟨uk,un,us,uA,um,uc⟩:=u
     dsimp only at c0 c1 c2 c3 hU hUc
     subst hU
     have HCU:Hid (∀W,Calls prog 114 #[.int .i64 (U:Int)] W fun e w'=>e=.returned (.bool (pY U))∧W=w'):=Hd (fun W=>pB U ⟨hU1,hU2⟩ W)
     have HCE:=Hd hUc
     have HI:Hid (∀W,Below w.heap.size w W→Calls prog 113 #[.agg #[.int .i64 (U:Int),.int .i64 un,.string us,.slice uA um uc],.int .i64 dp] W (Ret (.bool true) W)):=Hd HI0
     have HZI:Hid (wrap64 ((i:Int)+1)=((i+1:Nat):Int)):=Hd (by rw[Mem.w64 (by omega) (by have:=HMX.out;omega)];omega)
     have zlt:(i:Int)<(m:Int):=by omega
     have HLT:=Hd hlt
     have z4:=HZ4.out
     have z5:=HZ5.out
     clear hxi hvi hlt hU1 hU2 hUc HI0
     by_cases hk:(K:Int)=10
     ·have zk:((K:Int)==10)=true:=by rw[hk];rfl
      by_cases hi0:i=0
      ·have zi0:((i:Int)==0)=true:=by rw[hi0];rfl
       have HCO:Hid (∀W,Calls prog 114 #[.int .i64 (U:Int)] W fun e w'=>e=.returned (.bool true)∧W=w'):=Hd (fun W=>by
        have:=HCU.out W
        rw[HCE.out] at this
        simpa[hk,hi0] using this)
       clear hk hi0
       go_wp2_with fail
       first|go_region_held3 (fun W'=>W'.cell? ⟨w.heap.size,0,none⟩=some (.int .i64 (K:Int))∧W'.cell? ⟨w.heap.size,3,none⟩=some (.slice (some ⟨b,off,none⟩) m c)∧W'.cell? ⟨b,off+i * 4,none⟩=some (.int .i64 (U:Int))∧W'.cell? ⟨b,off+i * 4+1,none⟩=some (.int .i64 un)∧W'.cell? ⟨b,off+i * 4+2,none⟩=some (.string us)∧W'.cell? ⟨b,off+i * 4+3,none⟩=some (.slice uA um uc)) (go_keep) (first
        |(go_at_call 114;go_must (refine(HCO.out _).mono ?_;rintro e wq6 ⟨rfl,rfl⟩))
        |(go_at_call 113;go_must (refine rC w (HI.out _ blw) ?_;intro W hb HB2;have k0:=bcl hb (w.heap.size) 0 (.int .i64 (K:Int));have k1:=bcl hb (w.heap.size) 3 (.slice (some ⟨b,off,none⟩) m c);have k2:W.cell? ⟨b,off+i * 4,none⟩=some (.int .i64 (U:Int)):=aC hb (by first|assumption|(go_simp;done));have k3:W.cell? ⟨b,off+i * 4+1,none⟩=some (.int .i64 un):=aC hb (by first|assumption|(go_simp;done));have k4:W.cell? ⟨b,off+i * 4+2,none⟩=some (.string us):=aC hb (by first|assumption|(go_simp;done));have k5:W.cell? ⟨b,off+i * 4+3,none⟩=some (.slice uA um uc):=aC hb (by first|assumption|(go_simp;done));clear hb)))|fail
       all_goals go_wp2_with fail
       go_roundw
       case rel=>exact⟨i+1,HLT.out,(by first|rw[HZI.out]|rfl|simp),HB2,k0,k1⟩
       case measure=>have:=HLT.out;(try rw[HZI.out]);simp[intOf];omega
      ·have HI0':Hid ((i:Int)≠0):=Hd (by omega)
       have HCO:Hid (∀W,Calls prog 114 #[.int .i64 (U:Int)] W fun e w'=>e=.returned (.bool false)∧W=w'):=Hd (fun W=>by
        have:=HCU.out W
        rw[HCE.out] at this
        simpa[hk,hi0] using this)
       clear hk hi0
       go_wp2_with fail
       have zi0:((i:Int)==0)=false:=bN HI0'.out
       have zi2:decide ((i:Int)=0)=false:=decide_eq_false HI0'.out
       have zi3:decide (i=0)=false:=decide_eq_false (by have:=HI0'.out;omega)
       have zi4:(i==0)=false:=bN (by have:=HI0'.out;omega)
       first|go_region_held3 (fun W'=>W'.cell? ⟨w.heap.size,0,none⟩=some (.int .i64 (K:Int))∧W'.cell? ⟨w.heap.size,3,none⟩=some (.slice (some ⟨b,off,none⟩) m c)∧W'.cell? ⟨b,off+i * 4,none⟩=some (.int .i64 (U:Int))∧W'.cell? ⟨b,off+i * 4+1,none⟩=some (.int .i64 un)∧W'.cell? ⟨b,off+i * 4+2,none⟩=some (.string us)∧W'.cell? ⟨b,off+i * 4+3,none⟩=some (.slice uA um uc)) (go_keep) (first
        |(go_at_call 114;go_must (refine(HCO.out _).mono ?_;rintro e wq7 ⟨rfl,rfl⟩))
        |(go_at_call 113;go_must (refine rC w (HI.out _ blw) ?_;intro W hb HB2;have k0:=bcl hb (w.heap.size) 0 (.int .i64 (K:Int));have k1:=bcl hb (w.heap.size) 3 (.slice (some ⟨b,off,none⟩) m c);have k2:W.cell? ⟨b,off+i * 4,none⟩=some (.int .i64 (U:Int)):=aC hb (by first|assumption|(go_simp;done));have k3:W.cell? ⟨b,off+i * 4+1,none⟩=some (.int .i64 un):=aC hb (by first|assumption|(go_simp;done));have k4:W.cell? ⟨b,off+i * 4+2,none⟩=some (.string us):=aC hb (by first|assumption|(go_simp;done));have k5:W.cell? ⟨b,off+i * 4+3,none⟩=some (.slice uA um uc):=aC hb (by first|assumption|(go_simp;done));clear hb)))|fail
       all_goals go_wp2_with fail
       go_roundw
       case rel=>exact⟨i+1,HLT.out,(by first|rw[HZI.out]|rfl|simp),HB2,k0,k1⟩
       case measure=>have:=HLT.out;(try rw[HZI.out]);simp[intOf];omega
     ·have HK10:Hid ((K:Int)≠10):=Hd hk
      have HCO:Hid (∀W,Calls prog 114 #[.int .i64 (U:Int)] W fun e w'=>e=.returned (.bool false)∧W=w'):=Hd (fun W=>by
       have:=HCU.out W
       rw[HCE.out] at this
       simpa[hk] using this)
      clear hk
      have q0:=cell_regrown kc0
      have q3:=cell_regrown kc3
      have r0:=cell_regrown c0
      have r1:=cell_regrown c1
      have r2:=cell_regrown c2
      have r3:=cell_regrown c3
      have cA:∀d os,Calls prog 114 #[.int .i64 (U:Int)] (Sort.grow (redrawn wr d) os) fun e w''=>e=.returned (.bool false)∧∃p:Regrown,w''=Sort.grow (redrawn wr p.d) p.os:=fun d os=>Calls.regrown_of ((HCO.out _).mono (fun e w' h=>⟨h.1,h.2▸bR⟩))
      have cB:∀d os,Calls prog 113 #[.agg #[.int .i64 (U:Int),.int .i64 un,.string us,.slice uA um uc],.int .i64 dp] (Sort.grow (redrawn wr d) os) fun e w''=>e=.returned (.bool true)∧∃p:Regrown,w''=Sort.grow (redrawn wr p.d) p.os:=fun d os=>Calls.regrown_of (HI.out _ (HB.out.trans (aP (below_regrown wr d os) HB.out.size)))
      go_wp2_with fail
      have zk:((K:Int)==10)=false:=bN HK10.out
      have zk2:decide ((K:Int)=10)=false:=decide_eq_false HK10.out
      have zk3:decide (K=10)=false:=decide_eq_false (by have:=HK10.out;omega)
      have zk4:(K==10)=false:=bN (by have:=HK10.out;omega)
      refine wp_region_quiet_below (by kernel_rfl) (by kernel_rfl) ?_
      repeat(go_big_quiet_step (first|(with_reducible exact cA _ _)|(with_reducible exact cB _ _)))
      refine wpQuiet_nil ?_
      intro _ hw'
      obtain⟨⟨dq,osq⟩,hw''⟩:=hw'
      subst hw''
      obtain⟨W,hW⟩:∃W,W=Sort.grow (redrawn wr dq) osq:=⟨_,rfl⟩
      have HB2:Hid (Below w.heap.size w W):=Hd (by rw[hW];exact HB.out.trans (aP (below_regrown wr dq osq) HB.out.size))
      have k0:W.cell? ⟨w.heap.size,0,none⟩=some (.int .i64 (K:Int)):=by rw[hW];exact q0 _ _
      have k1:W.cell? ⟨w.heap.size,3,none⟩=some (.slice (some ⟨b,off,none⟩) m c):=by rw[hW];exact q3 _ _
      rw[←hW]
      clear hW q0 q3 r0 r1 r2 r3 cA cB
      go_wp2_with fail
      go_roundw
      case rel=>exact⟨i+1,HLT.out,(by first|rw[HZI.out]|rfl|simp),HB2,k0,k1⟩
      case measure=>have:=HLT.out;(try rw[HZI.out]);simp[intOf];omega
    ·obtain rfl:i=m:=by omega
     clear hlt
     go_wp2_with fail
     go_ret
     exact⟨rfl,HB.out⟩
end Go.Proofs.YtlibhkkckgkkkaaGreatDoor.Tf
