/- Part of the proof of TopFeeds: MdlG AwF MdlI AwG MdlH. -/
import Derived.Test.YtlibhkkckgkkkaaGreatDoorZBH
set_option maxHeartbeats 4000000
set_option maxRecDepth 100000
namespace Go.Proofs.YtlibhkkckgkkkaaGreatDoor.Tf
open Go.RowKit Go.Proofs.YtlibhkkckgkkkaaGreatDoor.Mem Go.Proofs.YtlibhkkckgkkkaaGreatDoor.Boo
theorem rY {W:World} {mb i:Nat} {cs cs':Array Value} (h:W.heap[mb]?=some (.cells cs 73 (0,0))) (v:Value) (he:cs.setIfInBounds i v=cs'):(W.setCell ⟨mb,i,none⟩ v).heap[mb]?=some (.cells cs' 73 (0,0)):=he▸aE W mb i cs 73 v h
section
variable {P:Mp} {M:Mst} {S:Sp} {w w':World}
theorem bQ.cfgK (h:bQ P M S w) {ts:List TypeId} (k:Ker ts w w') (ht:27∉ts):(match M.C with
 |none=>S.g=none
 |some C=>∃gb,S.g=some ⟨gb,0,none⟩∧w'.heap[gb]?=some (.cells C.arr 27 (0,0))):=by
 have h9:=h.cfg
 cases hC:M.C with
 |none=>rw[hC] at h9;exact h9
 |some C=>
  rw[hC] at h9
  obtain⟨gb,g1,g2⟩:=h9
  exact⟨gb,g1,k.cells g2 ht⟩
theorem bQ.se (h:bQ P M S w) {A:Option Addr} {c:Nat} {xs:List (fA)} (o:dN.Own 239 w P.B A c xs):bQ P {M with se:=xs} S (w.setCell ⟨P.mb,2,none⟩ (.slice A xs.length c)):=by
 have hc9:=h
 obtain⟨⟨sc,NA,nc,OA,oc,HA,hc,MA,mc,h1,h2,h3,h4,h5,h6⟩,hs,⟨cur,hk⟩,h8,h9,h10,h11,⟨xs',q1,q2⟩,hl⟩:=h
 have k:Ker [73] w (w.setCell ⟨P.mb,2,none⟩ (.slice A xs.length c)):=Ker.set h1 (by decide) _ _
 exact⟨⟨sc,A,c,OA,oc,HA,hc,MA,mc,rY h1 _ rfl,k.own o (by decide),k.own h3 (by decide),k.own h4 (by decide),k.own h5 (by decide),h6⟩,hs.ker hk k (by decide),⟨cur,k.cells hk (by decide)⟩,h8,hc9.cfgK k (by decide),k.own h10 (by decide),h11,⟨xs',q1.ker k (by decide) (by decide) (by decide),q2⟩,hl⟩
theorem bQ.ou (h:bQ P M S w) {A:Option Addr} {c:Nat} {xs:List (Out.bH)} (o:Out.dO.Own 145 w P.B A c xs):bQ P {M with ou:=xs} S (w.setCell ⟨P.mb,4,none⟩ (.slice A xs.length c)):=by
 have hc9:=h
 obtain⟨⟨sc,NA,nc,OA,oc,HA,hc,MA,mc,h1,h2,h3,h4,h5,h6⟩,hs,⟨cur,hk⟩,h8,h9,h10,h11,⟨xs',q1,q2⟩,hl⟩:=h
 have k:Ker [73] w (w.setCell ⟨P.mb,4,none⟩ (.slice A xs.length c)):=Ker.set h1 (by decide) _ _
 exact⟨⟨sc,NA,nc,A,c,HA,hc,MA,mc,rY h1 _ rfl,k.own h2 (by decide),k.own o (by decide),k.own h4 (by decide),k.own h5 (by decide),h6⟩,hs.ker hk k (by decide),⟨cur,k.cells hk (by decide)⟩,h8,hc9.cfgK k (by decide),k.own h10 (by decide),h11,⟨xs',q1.ker k (by decide) (by decide) (by decide),q2⟩,hl⟩
theorem bQ.sh (h:bQ P M S w) {A:Option Addr} {c:Nat} {xs:List (Int×Int)} (o:dSh.Own 147 w P.B A c xs):bQ P {M with sh:=xs} S (w.setCell ⟨P.mb,5,none⟩ (.slice A xs.length c)):=by
 have hc9:=h
 obtain⟨⟨sc,NA,nc,OA,oc,HA,hc,MA,mc,h1,h2,h3,h4,h5,h6⟩,hs,⟨cur,hk⟩,h8,h9,h10,h11,⟨xs',q1,q2⟩,hl⟩:=h
 have k:Ker [73] w (w.setCell ⟨P.mb,5,none⟩ (.slice A xs.length c)):=Ker.set h1 (by decide) _ _
 exact⟨⟨sc,NA,nc,OA,oc,A,c,MA,mc,rY h1 _ rfl,k.own h2 (by decide),k.own h3 (by decide),k.own o (by decide),k.own h5 (by decide),h6⟩,hs.ker hk k (by decide),⟨cur,k.cells hk (by decide)⟩,h8,hc9.cfgK k (by decide),k.own h10 (by decide),h11,⟨xs',q1.ker k (by decide) (by decide) (by decide),q2⟩,hl⟩
theorem bQ.ml (h:bQ P M S w) {A:Option Addr} {c:Nat} {xs:List (Out.dV)} (o:dM.Own 170 w P.B A c xs):bQ P {M with ml:=xs} S (w.setCell ⟨P.mb,6,none⟩ (.slice A xs.length c)):=by
 have hc9:=h
 obtain⟨⟨sc,NA,nc,OA,oc,HA,hc,MA,mc,h1,h2,h3,h4,h5,h6⟩,hs,⟨cur,hk⟩,h8,h9,h10,h11,⟨xs',q1,q2⟩,hl⟩:=h
 have k:Ker [73] w (w.setCell ⟨P.mb,6,none⟩ (.slice A xs.length c)):=Ker.set h1 (by decide) _ _
 exact⟨⟨sc,NA,nc,OA,oc,HA,hc,A,c,rY h1 _ rfl,k.own h2 (by decide),k.own h3 (by decide),k.own h4 (by decide),k.own o (by decide),h6⟩,hs.ker hk k (by decide),⟨cur,k.cells hk (by decide)⟩,h8,hc9.cfgK k (by decide),k.own h10 (by decide),h11,⟨xs',q1.ker k (by decide) (by decide) (by decide),q2⟩,hl⟩
theorem kK {W:World} {b j:Nat} {cur:Array Value} {t:TypeId} (h:W.heap[b]?=some (.cells cur t (0,0))) {u:Value} (hj:W.cell? ⟨b,j,none⟩=some u) (v:Value) (i:Nat):(W.setCell ⟨b,j,none⟩ v).cell? ⟨b,i,none⟩=if i=j then some v else W.cell? ⟨b,i,none⟩:=by
 rw[aA (aE W b j cur t v h),Array.getElem?_setIfInBounds,aA h]
 rw[aA h] at hj
 have:=(gLt hj)
 by_cases e:j=i
 ·rw[if_pos e,if_pos this,if_pos e.symm]
 ·rw[if_neg e,if_neg (fun e'=>e e'.symm)]
theorem bQ.setG (h:bQ P M S w) {C:Cf} {gb:Nat} (hg:w.heap[gb]?=some (.cells C.arr 27 (0,0))):bQ P {M with C:=some C} {S with g:=some ⟨gb,0,none⟩} (w.setCell ⟨S.sb,1,none⟩ (.pointer (some ⟨gb,0,none⟩))):=by
 obtain⟨⟨sc,NA,nc,OA,oc,HA,hc,MA,mc,h1,h2,h3,h4,h5,h6⟩,⟨k0,k1,k2,k3,k4,k5,k6⟩,⟨cur,hk⟩,h8,h9,h10,h11,⟨xs',q1,q2⟩,hl⟩:=h
 have k:Ker [143] w (w.setCell ⟨S.sb,1,none⟩ (.pointer (some ⟨gb,0,none⟩))):=Ker.set hk (by decide) _ _
 have c:=kK hk k1 (.pointer (some ⟨gb,0,none⟩))
 exact⟨⟨sc,NA,nc,OA,oc,HA,hc,MA,mc,k.cells h1 (by decide),k.own h2 (by decide),k.own h3 (by decide),k.own h4 (by decide),k.own h5 (by decide),h6⟩,⟨(c 0).trans k0,c 1,(c 2).trans k2,(c 3).trans k3,(c 4).trans k4,(c 5).trans k5,(c 6).trans k6⟩,⟨_,aE w S.sb 1 cur 143 _ hk⟩,h8,⟨gb,rfl,k.cells hg (by decide)⟩,k.own h10 (by decide),h11,⟨xs',q1.ker k (by decide) (by decide) (by decide),q2⟩,hl⟩
theorem bQ.setBk (h:bQ P M S w) {A:Option Addr} {c:Nat} {xs:List eG} (o:dL.Own 249 w P.B A c xs):bQ P {M with bk:=xs} {S with bA:=A,bc:=c} (w.setCell ⟨S.sb,2,none⟩ (.slice A xs.length c)):=by
 have hc9:=h
 obtain⟨⟨sc,NA,nc,OA,oc,HA,hc,MA,mc,h1,h2,h3,h4,h5,h6⟩,⟨k0,k1,k2,k3,k4,k5,k6⟩,⟨cur,hk⟩,h8,h9,h10,h11,⟨xs',q1,q2⟩,hl⟩:=h
 have k:Ker [143] w (w.setCell ⟨S.sb,2,none⟩ (.slice A xs.length c)):=Ker.set hk (by decide) _ _
 have c':=kK hk k2 (.slice A xs.length c)
 exact⟨⟨sc,NA,nc,OA,oc,HA,hc,MA,mc,k.cells h1 (by decide),k.own h2 (by decide),k.own h3 (by decide),k.own h4 (by decide),k.own h5 (by decide),h6⟩,⟨(c' 0).trans k0,(c' 1).trans k1,c' 2,(c' 3).trans k3,(c' 4).trans k4,(c' 5).trans k5,(c' 6).trans k6⟩,⟨_,aE w S.sb 2 cur 143 _ hk⟩,h8,hc9.cfgK k (by decide),k.own o (by decide),h11,⟨xs',q1.ker k (by decide) (by decide) (by decide),q2⟩,hl⟩
theorem bQ.setL (h:bQ P M S w) (x:Int):bQ P {M with fr:=false} {S with l:=x} (w.setCell ⟨S.sb,3,none⟩ (.int .i64 x)):=by
 have hc9:=h
 obtain⟨⟨sc,NA,nc,OA,oc,HA,hc,MA,mc,h1,h2,h3,h4,h5,h6⟩,⟨k0,k1,k2,k3,k4,k5,k6⟩,⟨cur,hk⟩,h8,h9,h10,h11,⟨xs',q1,q2⟩,hl⟩:=h
 have k:Ker [143] w (w.setCell ⟨S.sb,3,none⟩ (.int .i64 x)):=Ker.set hk (by decide) _ _
 have c':=kK hk k3 (.int .i64 x)
 exact⟨⟨sc,NA,nc,OA,oc,HA,hc,MA,mc,k.cells h1 (by decide),k.own h2 (by decide),k.own h3 (by decide),k.own h4 (by decide),k.own h5 (by decide),h6⟩,⟨(c' 0).trans k0,(c' 1).trans k1,(c' 2).trans k2,c' 3,(c' 4).trans k4,(c' 5).trans k5,(c' 6).trans k6⟩,⟨_,aE w S.sb 3 cur 143 _ hk⟩,h8,hc9.cfgK k (by decide),k.own h10 (by decide),fun e=>(nomatch e),⟨xs',q1.ker k (by decide) (by decide) (by decide),q2⟩,hl⟩
theorem bQ.setAt (h:bQ P M S w) (x:Int):bQ P {M with fr:=false} {S with a:=x} (w.setCell ⟨S.sb,4,none⟩ (.int .i64 x)):=by
 have hc9:=h
 obtain⟨⟨sc,NA,nc,OA,oc,HA,hc,MA,mc,h1,h2,h3,h4,h5,h6⟩,⟨k0,k1,k2,k3,k4,k5,k6⟩,⟨cur,hk⟩,h8,h9,h10,h11,⟨xs',q1,q2⟩,hl⟩:=h
 have k:Ker [143] w (w.setCell ⟨S.sb,4,none⟩ (.int .i64 x)):=Ker.set hk (by decide) _ _
 have c':=kK hk k4 (.int .i64 x)
 exact⟨⟨sc,NA,nc,OA,oc,HA,hc,MA,mc,k.cells h1 (by decide),k.own h2 (by decide),k.own h3 (by decide),k.own h4 (by decide),k.own h5 (by decide),h6⟩,⟨(c' 0).trans k0,(c' 1).trans k1,(c' 2).trans k2,(c' 3).trans k3,c' 4,(c' 5).trans k5,(c' 6).trans k6⟩,⟨_,aE w S.sb 4 cur 143 _ hk⟩,h8,hc9.cfgK k (by decide),k.own h10 (by decide),fun e=>(nomatch e),⟨xs',q1.ker k (by decide) (by decide) (by decide),q2⟩,hl⟩
theorem bQ.setRing (h:bQ P M S w) (A:Option Addr) (m c:Nat):bQ P {M with fr:=false} {S with rA:=A,rn:=m,rc:=c} (w.setCell ⟨S.sb,5,none⟩ (.slice A m c)):=by
 have hc9:=h
 obtain⟨⟨sc,NA,nc,OA,oc,HA,hc,MA,mc,h1,h2,h3,h4,h5,h6⟩,⟨k0,k1,k2,k3,k4,k5,k6⟩,⟨cur,hk⟩,h8,h9,h10,h11,⟨xs',q1,q2⟩,hl⟩:=h
 have k:Ker [143] w (w.setCell ⟨S.sb,5,none⟩ (.slice A m c)):=Ker.set hk (by decide) _ _
 have c':=kK hk k5 (.slice A m c)
 exact⟨⟨sc,NA,nc,OA,oc,HA,hc,MA,mc,k.cells h1 (by decide),k.own h2 (by decide),k.own h3 (by decide),k.own h4 (by decide),k.own h5 (by decide),h6⟩,⟨(c' 0).trans k0,(c' 1).trans k1,(c' 2).trans k2,(c' 3).trans k3,(c' 4).trans k4,c' 5,(c' 6).trans k6⟩,⟨_,aE w S.sb 5 cur 143 _ hk⟩,h8,hc9.cfgK k (by decide),k.own h10 (by decide),fun e=>(nomatch e),⟨xs',q1.ker k (by decide) (by decide) (by decide),q2⟩,hl⟩
theorem bQ.setSw (h:bQ P M S w) (x:Int):bQ P {M with fr:=false} {S with z:=x} (w.setCell ⟨S.sb,6,none⟩ (.int .i64 x)):=by
 have hc9:=h
 obtain⟨⟨sc,NA,nc,OA,oc,HA,hc,MA,mc,h1,h2,h3,h4,h5,h6⟩,⟨k0,k1,k2,k3,k4,k5,k6⟩,⟨cur,hk⟩,h8,h9,h10,h11,⟨xs',q1,q2⟩,hl⟩:=h
 have k:Ker [143] w (w.setCell ⟨S.sb,6,none⟩ (.int .i64 x)):=Ker.set hk (by decide) _ _
 have c':=kK hk k6 (.int .i64 x)
 exact⟨⟨sc,NA,nc,OA,oc,HA,hc,MA,mc,k.cells h1 (by decide),k.own h2 (by decide),k.own h3 (by decide),k.own h4 (by decide),k.own h5 (by decide),h6⟩,⟨(c' 0).trans k0,(c' 1).trans k1,(c' 2).trans k2,(c' 3).trans k3,(c' 4).trans k4,(c' 5).trans k5,c' 6⟩,⟨_,aE w S.sb 6 cur 143 _ hk⟩,h8,hc9.cfgK k (by decide),k.own h10 (by decide),fun e=>(nomatch e),⟨xs',q1.ker k (by decide) (by decide) (by decide),q2⟩,hl⟩
end
end Go.Proofs.YtlibhkkckgkkkaaGreatDoor.Tf
namespace Go.Proofs.YtlibhkkckgkkkaaGreatDoor.Tf
open Go.RowKit Go.Proofs.YtlibhkkckgkkkaaGreatDoor.Mem Go.Proofs.YtlibhkkckgkkkaaGreatDoor.Boo Go.Proofs.Tryz
theorem lZ (n:Nat):(dC n).size=2:=rfl
theorem iM (k:Int) (A:Option Addr) (c n:Nat) (xs:List Int) (t b s:ByteArray) (q:Nat) (hn:xs.length=n) (h:lM k xs t) (hj:(Lib.join ((eL k xs).map (·.data.toList)) [32]).length≤1000) (hb:xZ k xs t=b) (hbs:b.size≤60000) (hs:dC b.size++b=s) (hq:wrap64 (nA s.data.toList)=(q:Int)) (hq2:q≤65535) (w:World) (G:Gl w) (hat:dZ.At w A c xs):
 Calls prog 300 #[.agg #[.int .i64 k,.slice A n c,.string t]] w (Ret (.tuple #[.string (s++dC q),.int .i64 0]) w):=by
 have HR:Hid (∀W,Below w.heap.size w W→Calls prog 250 #[.agg #[.int .i64 k,.slice A n c,.string t]] W (Ret (.bool true) W)):=Hd (fun W hW=>nG k A c n xs t hn h W (hat.below hW))
 have HBO:Hid (∀W,Below w.heap.size w W→Calls prog 295 #[.agg #[.int .i64 k,.slice A n c,.string t]] W (Ret (.string b) W)):=Hd (fun W hW=>by rw[←hb];exact xY k A c n xs t hn h hj W (G.below hW) (hat.below hW))
 have HY:Hid (∀(m:Nat) W,m≤65535→Calls prog 292 #[.int .i64 (m:Int)] W (Ret (.string (dC m)) W)):=Hd (fun m W hm=>uD m hm W)
 have hss:s.size≤70000:=by rw[←hs,ByteArray.size_append,lZ];omega
 have HSU:Hid (∀W,Calls prog 293 #[.string s] W fun e w'=>e=.returned (.int .i64 (q:Int))∧W=w'):=Hd (fun W=>by rw[←hq];exact aBk s (by omega) W)
 have a0:∀W,(Op.stringOp .add (dC b.size) b).run prog W=.ok (.string s) W:=fun W=>by rw[←hs];exact run_string_add_sum W _ _ (by rw[lZ];omega)
 have a1:∀W,(Op.stringOp .add s (dC q)).run prog W=.ok (.string (s++dC q)) W:=fun W=>run_string_add_sum W _ _ (by rw[lZ];omega)
 have HM:Hid (b.size≤65535∧q≤65535):=Hd ⟨by omega,hq2⟩
 clear hn h hj hb hbs hs hq hq2 G hat hss
 generalize dC=Y at HY a0 a1 ⊢
 go_enter func300,ntmps300
 go_wp2_with (first
  |(go_at_call 250;go_must (refine rC w (HR.out _ blw) ?_;intro W1 hb HB_W1;obtain⟨⟨kcq1_0_0,kcq1_0_1,kcq1_0_2⟩,klq1_0,kfq1_0⟩:=kb3 hb (w.heap.size) (.int .i64 k) (.slice A n c) (.string t);clear hb))
  |(go_at_call 295;go_must (refine rC w (HBO.out _ blw) ?_;intro W2 hb HB_W2;obtain⟨⟨kcq2_0_0,kcq2_0_1,kcq2_0_2⟩,klq2_0,kfq2_0⟩:=kb3 hb (w.heap.size) (.int .i64 k) (.slice A n c) (.string t);clear hb))
  |(go_at_call 293;go_must (refine(HSU.out _).mono ?_;rintro e wq3 ⟨rfl,rfl⟩))
  |(go_at_call 292;go_must (refine rB w (HY.out _ _ (by first|exact HM.out.1|exact HM.out.2)) ?_;intro W3 HB3)))
 exact bodyPost_ret (v:=.tuple #[.string (s++Y q),.int .i64 0]) (by simp[results,results300,go_sem]) rfl ⟨rfl,blw⟩
end Go.Proofs.YtlibhkkckgkkkaaGreatDoor.Tf
namespace Go.Proofs.YtlibhkkckgkkkaaGreatDoor.Tf
open Go.RowKit Go.Proofs.YtlibhkkckgkkkaaGreatDoor.Mem Go.Proofs.YtlibhkkckgkkkaaGreatDoor.Boo
theorem aHq (P:Mp) (M:Mst) (S:Sp) (p:Nat) (hp:p≤1000) (w:World) (h:bQ P M S w):
 Calls Tryz.prog 63 #[.pointer (some ⟨P.mb,0,none⟩),.int .i64 0,.int .i64 p] w fun e w'=>e=.returned (.tuple #[])∧bQ P {M with wt:=true} S w'∧aT P.B w w':=by
 obtain⟨xs,q1,q2⟩:=h.queue
 obtain⟨sc,NA,nc,OA,oc,HA,hc,MA,mc,h1,_⟩:=h.box
 have ho:One xs:=by
  cases hw:M.wt with
  |true=>rw[hw,if_pos rfl] at q2;exact .inr q2
  |false=>rw[hw] at q2;exact .inl q2
 refine(aOc P.mb P.qb P.hb P.pb P.db P.B p hp xs ho w q1 (aA h1 0) (aA h1 3)).mono ?_
 rintro e w' ⟨rfl,hq,hk⟩
 exact⟨rfl,h.asked hq hk,aT.ofQ q1 hk⟩
theorem rX (P:Mp) (M:Mst) (S:Sp) (w:World) (h:bQ P M S w):Calls Tryz.prog 61 #[.pointer (some ⟨P.mb,0,none⟩),.string aX] w (Ret (.int .i64 0) w):=by
 obtain⟨⟨sc,NA,nc,OA,oc,HA,hc,MA,mc,h1,_⟩,hs,_⟩:=h
 exact zF P.mb sc S.sb aX S.g S.bA _ _ _ _ S.rA _ _ _ w (aA h1 1) hs
abbrev iV (k:Int) (s t:ByteArray) (n0 n1 n2 n3 n4:Int):Array Value:=#[.int .i64 k,.string s,.string t,.int .i64 n0,.int .i64 n1,.int .i64 n2,.int .i64 n3,.int .i64 n4]
structure iH (v w:World) (c:Array Value):Prop where
 eq:w=(v.alloc (.cells c 42)).alloc (.cells #[.int .i64 0,.int .i64 0] 38)
theorem iH.size {v w:World} {c:Array Value} (h:iH v w c):w.heap.size=v.heap.size+2:=by rw[h.eq];simp
theorem iH.below {v w:World} {c:Array Value} (h:iH v w c):Below v.heap.size v w:=by rw[h.eq];exact aB (aB bR _) _
theorem iH.cmd {v w:World} {c:Array Value} (h:iH v w c):w.heap[v.heap.size]?=some (.cells c 42 (0,0)):=by
 rw[h.eq]
 exact(Below.heap_alloc _ _ _ (by simp)).trans (heap_alloc_new v _)
theorem iH.res {v w:World} {c:Array Value} (h:iH v w c):w.heap[v.heap.size+1]?=some (.cells #[.int .i64 0,.int .i64 0] 38 (0,0)):=by
 rw[h.eq]
 have:=heap_alloc_new (v.alloc (.cells c 42)) (.cells #[.int .i64 0,.int .i64 0] 38)
 rw[show(v.alloc (.cells c 42)).heap.size=v.heap.size+1 by simp] at this
 exact this
theorem nF {P:Mp} {M:Mst} {S:Sp} {v w W:World} {c:Array Value} (h:bQ P M S W) (hb:iH v w c) (hB:P.B≤v.heap.size) (k:aT P.B w W) (u n:Value):Md P M ((W.setCell ⟨v.heap.size+1,0,none⟩ u).setCell ⟨v.heap.size+1,1,none⟩ n)∧aT P.B v ((W.setCell ⟨v.heap.size+1,0,none⟩ u).setCell ⟨v.heap.size+1,1,none⟩ n):=by
 have r:=k.other _ _ _ _ (by decide) hb.res
 have k2:Ker [38] W ((W.setCell ⟨v.heap.size+1,0,none⟩ u).setCell ⟨v.heap.size+1,1,none⟩ n):=(Ker.set r (by decide) _ _).trans (Ker.set (aE W _ 0 _ 38 u r) (by decide) _ _)
 exact⟨⟨S,h.ker k2 (by decide)⟩,((((aT.ofB hB hb.below).trans k).setN hB (p:=⟨v.heap.size+1,0,none⟩) (by dsimp only;omega) _).setN hB (p:=⟨v.heap.size+1,1,none⟩) (by dsimp only;omega) _)⟩
theorem nE {B:Nat} {v w W:World} {c:Array Value} (hb:iH v w c) (k:aT B w W):W.cell? ⟨v.heap.size+1,0,none⟩=some (.int .i64 0)∧W.cell? ⟨v.heap.size+1,1,none⟩=some (.int .i64 0)∧(∀o,W.frozen? ⟨v.heap.size+1,o,none⟩=false)∧v.heap.size+1<W.heap.size:=by
 have r:=k.other _ _ _ _ (by decide) hb.res
 exact⟨aA r 0,aA r 1,fun o=>fH r o,(gLt r)⟩
theorem bQ.cells {P:Mp} {M:Mst} {S:Sp} {W:World} (h:bQ P M S W):∃(sc:Nat) (NA:Option Addr) (nc:Nat) (OA:Option Addr) (oc:Nat) (HA:Option Addr) (hc:Nat) (MA:Option Addr) (mc:Nat),
 (W.cell? ⟨P.mb,0,none⟩=some (.int .i64 0)∧W.cell? ⟨P.mb,1,none⟩=some (.slice (some ⟨S.sb,0,none⟩) 1 sc)∧W.cell? ⟨P.mb,2,none⟩=some (.slice NA M.se.length nc)∧W.cell? ⟨P.mb,3,none⟩=some (.pointer (some ⟨P.qb,0,none⟩))∧W.cell? ⟨P.mb,4,none⟩=some (.slice OA M.ou.length oc)∧W.cell? ⟨P.mb,5,none⟩=some (.slice HA M.sh.length hc)∧W.cell? ⟨P.mb,6,none⟩=some (.slice MA M.ml.length mc))∧
 (W.cell? ⟨S.sb,1,none⟩=some (.pointer S.g)∧W.cell? ⟨S.sb,2,none⟩=some (.slice S.bA M.bk.length S.bc)∧W.cell? ⟨S.sb,3,none⟩=some (.int .i64 S.l)∧W.cell? ⟨S.sb,4,none⟩=some (.int .i64 S.a)∧W.cell? ⟨S.sb,5,none⟩=some (.slice S.rA S.rn S.rc)∧W.cell? ⟨S.sb,6,none⟩=some (.int .i64 S.z))∧
 ((∀o,W.frozen? ⟨P.mb,o,none⟩=false)∧(∀o,W.frozen? ⟨S.sb,o,none⟩=false)∧P.mb<W.heap.size∧S.sb<W.heap.size)∧
 (dN.Own 239 W P.B NA nc M.se∧Out.dO.Own 145 W P.B OA oc M.ou∧dSh.Own 147 W P.B HA hc M.sh∧dM.Own 170 W P.B MA mc M.ml)∧1≤sc∧sc≤9223372036854775807:=by
 obtain⟨⟨sc,NA,nc,OA,oc,HA,hc,MA,mc,h1,h2,h3,h4,h5,h6⟩,⟨k0,k1,k2,k3,k4,k5,k6⟩,⟨cur,hk⟩,_⟩:=h
 exact⟨sc,NA,nc,OA,oc,HA,hc,MA,mc,⟨aA h1 0,aA h1 1,aA h1 2,aA h1 3,aA h1 4,aA h1 5,aA h1 6⟩,⟨k1,k2,k3,k4,k5,k6⟩,⟨fun o=>fH h1 o,fun o=>fH hk o,(gLt h1),(gLt hk)⟩,⟨h2,h3,h4,h5⟩,h6⟩
end Go.Proofs.YtlibhkkckgkkkaaGreatDoor.Tf
namespace Go.Proofs.YtlibhkkckgkkkaaGreatDoor.Tf
open Go.RowKit Go.Proofs.YtlibhkkckgkkkaaGreatDoor.Mem Go.Proofs.YtlibhkkckgkkkaaGreatDoor.Boo Go.Proofs.Tryz
theorem pT {W:World} {q b i:Nat} {x:Value} (h:W.cell? ⟨b,i,none⟩=some x) (hn:b≠q) (u0 u1 u2:Value):(((W.setCell ⟨q,0,none⟩ u0).setCell ⟨q,1,none⟩ u1).setCell ⟨q,2,none⟩ u2).cell? ⟨b,i,none⟩=some x:=by
 have k:∀(W:World) (j:Nat) (u:Value),(W.setCell ⟨q,j,none⟩ u).cell? ⟨b,i,none⟩=W.cell? ⟨b,i,none⟩:=fun W j u=>by
  simp only[World.cell?]
  rw[aG W ⟨q,j,none⟩ u b hn]
 rw[k,k,k]
 exact h
theorem aQw (a:Nat) (m0 m1 m2 m3 m4:Int) (W:World) (h0:W.cell? ⟨a,3,none⟩=some (.int .i64 m0)) (h1:W.cell? ⟨a,4,none⟩=some (.int .i64 m1)) (h2:W.cell? ⟨a,5,none⟩=some (.int .i64 m2)) (h3:W.cell? ⟨a,6,none⟩=some (.int .i64 m3)) (h4:W.cell? ⟨a,7,none⟩=some (.int .i64 m4)):
 Calls prog 323 #[.slice (some ⟨a,3,none⟩) 5 5] W fun e w'=>∃A c,e=.returned (.slice A 5 c)∧dZ.Own 3 w' W.heap.size A c [m0,m1,m2,m3,m4]∧Below W.heap.size W w':=by
 refine(Tryz.slices_Clone_int a 3 5 5 [m0,m1,m2,m3,m4] W (Nat.le_refl 5) (by decide) (fun j hj=>?_)).mono ?_
 ·have hj5:j<5:=hj
  match j,hj5 with
  |0,_=>exact h0
  |1,_=>exact h1
  |2,_=>exact h2
  |3,_=>exact h3
  |4,_=>exact h4
 ·rintro e w' ⟨v,rfl,ho,_,hb⟩
  obtain⟨ao,n',cap,rfl⟩:∃ao n' cap,v=.slice ao n' cap:=by
   rcases ho.2 with⟨hv,_⟩|⟨g,cap,cur,hv,_⟩
   ·exact⟨_,_,_,hv⟩
   ·exact⟨_,_,_,hv⟩
  obtain rfl:n'=5:=by
   rcases ho.2 with⟨hv,hz⟩|⟨g,cap,cur,hv,_⟩
   ·exact absurd hz (by decide)
   ·cases hv;rfl
  refine⟨ao,cap,rfl,?_,hb⟩
  show w'.ownsRow W.heap.size 3 1 (.slice ao 5 cap) 5 (dZ.cs [m0,m1,m2,m3,m4])
  rw[aJk]
  exact ho
theorem aJr (k:Int) (s t:ByteArray) (m0 m1 m2 m3 m4:Int) (hs:s.size≤2000∧t.size≤2000) (w:World):
 Calls prog 301 #[.agg #[.int .i64 k,.string s,.string t,.int .i64 m0,.int .i64 m1,.int .i64 m2,.int .i64 m3,.int .i64 m4]] w fun e w'=>∃A c,e=.returned (.agg #[.int .i64 k,.slice A 6 c,.string (s++t)])∧dZ.At w' A c [m0,m1,m2,m3,m4,(s.size:Int)]∧Below w.heap.size w w':=by
 obtain⟨i0,hi,iz,isz,iby⟩:=info_parts wX
 have a0:∀W,(Op.stringOp .add s t).run prog W=.ok (.string (s++t)) W:=fun W=>run_string_add_sum W _ _ (by omega)
 clear hs
 obtain⟨W0,hW0⟩:∃W0,W0=(w.alloc (.cells #[.int .i64 k,.string s,.string t,.int .i64 m0,.int .i64 m1,.int .i64 m2,.int .i64 m3,.int .i64 m4] 42)).alloc (.cells #[.int .i64 0,.slice none 0 0,.string ⟨#[]⟩] 288):=⟨_,rfl⟩
 have hr1:W0.heap[w.heap.size+1]?=some (.cells #[.int .i64 0,.slice none 0 0,.string ⟨#[]⟩] 288 (0,0)):=by
  rw[hW0]
  have:=aN (w.alloc (.cells #[.int .i64 k,.string s,.string t,.int .i64 m0,.int .i64 m1,.int .i64 m2,.int .i64 m3,.int .i64 m4] 42)) (.cells #[.int .i64 0,.slice none 0 0,.string ⟨#[]⟩] 288)
  simpa using this
 have hr0:W0.heap[w.heap.size]?=some (.cells #[.int .i64 k,.string s,.string t,.int .i64 m0,.int .i64 m1,.int .i64 m2,.int .i64 m3,.int .i64 m4] 42 (0,0)):=by
  rw[hW0]
  exact(Below.heap_alloc _ _ _ (by simp)).trans (aN w _)
 have hb0:Below w.heap.size w W0:=by rw[hW0];exact aB (aB bR _) _
 have hz:W0.heap.size=w.heap.size+1+1:=by rw[hW0];simp
 have c0:=aA hr0 0
 have c1:=aA hr0 1
 have c2:=aA hr0 2
 have c3:=aA hr0 3
 have c4:=aA hr0 4
 have c5:=aA hr0 5
 have c6:=aA hr0 6
 have c7:=aA hr0 7
 have n0:w.heap.size≠w.heap.size+1:=by omega
 have HR1:=Hd hr1
 have HB0:=Hd hb0
 have HZ:=Hd hz
 clear hr0 hr1 hb0 hz
 go_enter func301,ntmps301
 go_wp2_with fail
 change Code.wp _ _ _ _ ((w.alloc (.cells #[.int .i64 k,.string s,.string t,.int .i64 m0,.int .i64 m1,.int .i64 m2,.int .i64 m3,.int .i64 m4] 42)).alloc (.cells #[.int .i64 0,.slice none 0 0,.string ⟨#[]⟩] 288))
 rw[←hW0]
 clear hW0
 go_region_held3 (fun W'=>W'.cell? ⟨w.heap.size,0,none⟩=some (.int .i64 k)∧W'.cell? ⟨w.heap.size,1,none⟩=some (.string s)∧W'.cell? ⟨w.heap.size,2,none⟩=some (.string t)∧W'.cell? ⟨w.heap.size,3,none⟩=some (.int .i64 m0)∧W'.cell? ⟨w.heap.size,4,none⟩=some (.int .i64 m1)∧W'.cell? ⟨w.heap.size,5,none⟩=some (.int .i64 m2)∧W'.cell? ⟨w.heap.size,6,none⟩=some (.int .i64 m3)∧W'.cell? ⟨w.heap.size,7,none⟩=some (.int .i64 m4)) (first|go_keep|(with_reducible exact⟨pT s0 n0 _ _ _,pT s1 n0 _ _ _,pT s2 n0 _ _ _,pT s3 n0 _ _ _,pT s4 n0 _ _ _,pT s5 n0 _ _ _,pT s6 n0 _ _ _,pT s7 n0 _ _ _⟩)) (first
  |(go_at_call 323;go_must (refine(aQw w.heap.size m0 m1 m2 m3 m4 _ (by first|assumption|(go_simp;done)) (by first|assumption|(go_simp;done)) (by first|assumption|(go_simp;done)) (by first|assumption|(go_simp;done)) (by first|assumption|(go_simp;done))).mono ?_;rintro e W3 ⟨A3,q3,rfl,ho,hb⟩;have HB3:=bst W0 hb;have HO3:Hid (dZ.Own 3 W3 W0.heap.size A3 q3 [m0,m1,m2,m3,m4]):=Hd (ho.lower (by simp));(first|(have HY:Hid (dZ.At W3 (some ⟨W0.heap.size,0,none⟩) 1 [(s.size:Int)]):=Hd ((eU dZ W0.drew 3 #[.int .i64 (s.size:Int)] _ rfl).below hb))|skip);have k0:=aC HB3.out c0;have k1:=aC HB3.out c1;have k2:=aC HB3.out c2;have k3:=aC HB3.out c3;have k4:=aC HB3.out c4;have k5:=aC HB3.out c5;have k6:=aC HB3.out c6;have k7:=aC HB3.out c7;clear hb ho))
  |(refine cO dZ _ (by rfl) _ _ _ (by rfl) W0.heap.size 3 i0 _ 8 underlying23 hi iz isz iby rfl A3 q3 _ [m0,m1,m2,m3,m4] (by rfl) rfl ?_ _ _ _ [(s.size:Int)] (by rfl) rfl ?_ ?_ ?_ ?_ ?_;(exact HO3.out.below blw);(first|exact HY.out.below blw|exact eU dZ _ 3 _ _ rfl);(simp);(simp);(exact Nat.le_trans HB3.out.size (show Below W3.heap.size W3 _ from blw).size);(intro A4 q4 W4 hown4 hg hat;have HO4:=Hd hown4;have HB4:Hid (Below W0.heap.size W0 W4):=Hd ((show Below W0.heap.size W0 _ from aD (w:=W0) HB3.out blw).grown hg (Nat.le_trans HB3.out.size (show Below W3.heap.size W3 _ from blw).size) (fun r hr=>(HO3.out.row r hr).1));have hr:=(HB4.out.block _ (gLt HR1.out)).trans HR1.out;have e0:=aA hr 0;have e1:=aA hr 1;have e2:=aA hr 2;have ef:∀o,W4.frozen? ⟨w.heap.size+1,o,none⟩=false:=fun o=>fH hr o;have el:=(gLt hr);have s0:=aC HB4.out c0;have s1:=aC HB4.out c1;have s2:=aC HB4.out c2;have s3:=aC HB4.out c3;have s4:=aC HB4.out c4;have s5:=aC HB4.out c5;have s6:=aC HB4.out c6;have s7:=aC HB4.out c7;clear hown4 hg hat hr)))
 all_goals go_wp2_with fail
 all_goals (
  have HW4:Hid (Below w.heap.size w W4):=Hd (aD HB0.out HB4.out)
  exact bodyPost_ret (v:=.agg #[.int .i64 k,.slice A4 6 q4,.string (s++t)]) (by simp[results,results301,go_sem, *]) rfl ⟨A4,q4,rfl,(((HO4.out.far (p:=⟨w.heap.size+1,0,none⟩) (by have:=HZ.out;dsimp only;omega) _).far (p:=⟨w.heap.size+1,1,none⟩) (by have:=HZ.out;dsimp only;omega) _).far (p:=⟨w.heap.size+1,2,none⟩) (by have:=HZ.out;dsimp only;omega) _).at_,aF (p:=⟨w.heap.size+1,2,none⟩) (aF (p:=⟨w.heap.size+1,1,none⟩) (aF (p:=⟨w.heap.size+1,0,none⟩) HW4.out (Nat.le_succ _) _) (Nat.le_succ _) _) (Nat.le_succ _) _⟩)
theorem aF3 {W:World} {B c:Nat} {A:Option Addr} {x:Sku} (h:dSk.Own 143 W B A c [x]):∃sb,A=some ⟨sb,0,none⟩∧B≤sb∧1≤c∧c≤9223372036854775807∧(∃cur,W.heap[sb]?=some (.cells cur 143 (0,0)))∧SkAt sb x.name (.pointer x.g) (.slice x.bA x.bn x.bc) x.last x.at_ (.slice x.rA x.rn x.rc) x.z W:=by
 have hat:=h.at_
 rcases h.2 with⟨hv,h0⟩|⟨g,cap,cur,hv,hB,hg,hn,hm,_⟩
 ·cases h0
 ·injection hv with e1 e2 e3
  subst e1
  subst e3
  obtain⟨b,off,e,hlt,hc⟩:=hat.get 0 x rfl
  injection e with e
  injection e with e1 e2 _
  subst e1
  subst e2
  exact⟨g,rfl,hB,hn,hm,⟨cur,hg⟩,hc 0 (by decide),hc 1 (by decide),hc 2 (by decide),hc 3 (by decide),hc 4 (by decide),hc 5 (by decide),hc 6 (by decide)⟩
theorem aKh {α:Type} (d:En α) (W:World) (e:TypeId) (cs:Array Value) (x:α) (q:Nat) (hc:cs.toList=d.enc x) (a:Addr) (u:Value) (hq:q=W.heap.size):d.At ((W.setCell a u).alloc (.cells cs e)) (some ⟨q,0,none⟩) 1 [x]:=by
 have:=eU d (W.setCell a u) e cs x hc
 rwa [show(W.setCell a u).heap.size=q by rw[hq];simp[World.setCell]] at this
abbrev aJ0:ByteArray:=⟨#[]⟩
abbrev qF (qb:Nat) (a b c:Value):Array Value:=#[.int .i64 0,a,.slice none 0 0,.pointer (some ⟨qb,0,none⟩),b,c,.slice none 0 0,.int .i64 0]
theorem pK {W W' w3:World} {mb k:Nat} {cs cs':Array Value} (hm:W.heap[mb]?=some (.cells cs 73 (0,0))) (hW:Below W.heap.size W W') (hg:W'.grownBy w3 (Value.slice none 0 0).ownBlock) (v:Value) (he:cs.setIfInBounds k v=cs'):
 w3.heap[mb]?=some (.cells cs 73 (0,0))∧(w3.setCell ⟨mb,k,none⟩ v).heap[mb]?=some (.cells cs' 73 (0,0)):=by
 have h3:w3.heap[mb]?=some (.cells cs 73 (0,0)):=gO hW hm hg (fun e=>by cases e)
 exact⟨h3,rY h3 v he⟩
section
variable {P:Mp} {w w3 w4 w5:World} {A3 A4 A5:Option Addr} {c3 c4 c5:Nat}
theorem aF2 (hb:P.B≤w.heap.size) (hB:P.B≤P.mb) (HW3:Below w.heap.size w w3) {d3 d4 d5:Array Value} (h3:w3.heap[P.mb]?=some (.cells d3 73 (0,0))) {v3 v4 v5:Value} (HW4:Below (w3.setCell ⟨P.mb,1,none⟩ v3).heap.size (w3.setCell ⟨P.mb,1,none⟩ v3) w4)
 (h4:w4.heap[P.mb]?=some (.cells d4 73 (0,0))) (HW5:Below (w4.setCell ⟨P.mb,4,none⟩ v4).heap.size (w4.setCell ⟨P.mb,4,none⟩ v4) w5) (h5:w5.heap[P.mb]?=some (.cells d5 73 (0,0))):aT P.B w (w5.setCell ⟨P.mb,5,none⟩ v5):=
 (((((aT.ofB hb HW3).setT h3 (by decide) hB _ _).step hb HW4).setT h4 (by decide) hB _ _).step hb HW5).setT h5 (by decide) hB _ _
theorem aOz (hq:fB P.qb P.hb P.pb P.db P.B [] w) (hB:P.B≤P.mb) (HW3:Below w.heap.size w w3)
 (h3:w3.heap[P.mb]?=some (.cells (qF P.qb (.slice none 0 0) (.slice none 0 0) (.slice none 0 0)) 73 (0,0))∧(w3.setCell ⟨P.mb,1,none⟩ (.slice A3 1 c3)).heap[P.mb]?=some (.cells (qF P.qb (.slice A3 1 c3) (.slice none 0 0) (.slice none 0 0)) 73 (0,0)))
 (HW4:Below (w3.setCell ⟨P.mb,1,none⟩ (.slice A3 1 c3)).heap.size (w3.setCell ⟨P.mb,1,none⟩ (.slice A3 1 c3)) w4)
 (h4:w4.heap[P.mb]?=some (.cells (qF P.qb (.slice A3 1 c3) (.slice none 0 0) (.slice none 0 0)) 73 (0,0))∧(w4.setCell ⟨P.mb,4,none⟩ (.slice A4 1 c4)).heap[P.mb]?=some (.cells (qF P.qb (.slice A3 1 c3) (.slice A4 1 c4) (.slice none 0 0)) 73 (0,0)))
 (HW5:Below (w4.setCell ⟨P.mb,4,none⟩ (.slice A4 1 c4)).heap.size (w4.setCell ⟨P.mb,4,none⟩ (.slice A4 1 c4)) w5)
 (h5:w5.heap[P.mb]?=some (.cells (qF P.qb (.slice A3 1 c3) (.slice A4 1 c4) (.slice none 0 0)) 73 (0,0))∧(w5.setCell ⟨P.mb,5,none⟩ (.slice A5 1 c5)).heap[P.mb]?=some (.cells (qF P.qb (.slice A3 1 c3) (.slice A4 1 c4) (.slice A5 1 c5)) 73 (0,0)))
 (o3:dSk.Own 143 w3 P.B A3 c3 [⟨aX,none,none,0,0,0,0,none,0,0,0⟩]) (o4:Out.dO.Own 145 w4 P.B A4 c4 [⟨0,0,0,0,0⟩]) (o5:dSh.Own 147 w5 P.B A5 c5 [(0,500)]):
 Md P ⟨none,[],[],[⟨0,0,0,0,0⟩],[(0,500)],[],true,false⟩ (w5.setCell ⟨P.mb,5,none⟩ (.slice A5 1 c5)):=by
 have k5:Ker [73] w5 (w5.setCell ⟨P.mb,5,none⟩ (.slice A5 1 c5)):=Ker.set h5.1 (by decide) _ _
 have k4:Ker [73] w4 (w5.setCell ⟨P.mb,5,none⟩ (.slice A5 1 c5)):=((Ker.set h4.1 (by decide) _ _).trans (Ker.of HW5)).trans k5
 have k3:Ker [73] w3 (w5.setCell ⟨P.mb,5,none⟩ (.slice A5 1 c5)):=((Ker.set h3.1 (by decide) _ _).trans (Ker.of HW4)).trans k4
 have k0:Ker [73] w (w5.setCell ⟨P.mb,5,none⟩ (.slice A5 1 c5)):=(Ker.of HW3).trans k3
 obtain⟨sb,rfl,hl,s1,s2,hk,hs⟩:=aF3 (k3.own o3 (by decide))
 exact⟨⟨sb,none,none,0,0,0,none,0,0,0⟩,⟨⟨c3,none,0,A4,c4,A5,c5,none,0,h5.2,En.Own.none_ _ _ _,k4.own o4 (by decide),k5.own o5 (by decide),En.Own.none_ _ _ _,s1,s2⟩,hs,hk,hl,rfl,En.Own.none_ _ _ _,fun _=>⟨rfl,rfl,rfl,rfl,rfl,rfl⟩,⟨[],hq.ker k0 (by decide) (by decide) (by decide),rfl⟩,hB⟩⟩
end
theorem aK8 (P:Mp) (v:World) (hm:v.heap[P.mb]?=some (.cells (qF P.qb (.slice none 0 0) (.slice none 0 0) (.slice none 0 0)) 73 (0,0))) (hq:fB P.qb P.hb P.pb P.db P.B [] v) (hB:P.B≤P.mb):
 Calls prog 24 #[.pointer (some ⟨P.mb,0,none⟩),.agg #[.int .i64 1,.string aX,.string ⟨#[]⟩,.int .i64 500,.int .i64 0,.int .i64 0,.int .i64 0,.int .i64 0]] v fun e w'=>e=.returned (.agg #[.int .i64 0,.int .i64 0])∧Md P ⟨none,[],[],[⟨0,0,0,0,0⟩],[(0,500)],[],true,false⟩ w'∧aT P.B v w':=by
 obtain⟨i1,hi1,iz1,isz1,iby1⟩:=info_parts aMx
 obtain⟨i2,hi2,iz2,isz2,iby2⟩:=info_parts aMw
 obtain⟨i3,hi3,iz3,isz3,iby3⟩:=info_parts aMv
 obtain⟨w,hw⟩:∃w,w=(v.alloc (.cells (iV 1 aX aJ0 500 0 0 0 0) 42)).alloc (.cells #[.int .i64 0,.int .i64 0] 38):=⟨_,rfl⟩
 have HG:Hid (iH v w (iV 1 aX aJ0 500 0 0 0 0)):=Hd ⟨hw⟩
 have hml:=(gLt hm)
 have HBv:Hid (P.B≤v.heap.size):=Hd (by omega)
 have hBw:P.B≤w.heap.size:=Nat.le_trans HBv.out HG.out.below.size
 have hmw:=(HG.out.below.block _ hml).trans hm
 have HM:=Hd hmw
 have HQ:=Hd (hq.below HG.out.below)
 have hN:aZ aX=true:=by decide +kernel
 have HN:=Hd (fun W=>eB aX W (by decide))
 rw[hN] at HN
 have HP:Hid (∀W,Below w.heap.size w W→Calls prog 61 #[.pointer (some ⟨P.mb,0,none⟩),.string aX] W (Ret (.int .i64 (-1)) W)):=Hd (fun W hW=>aG1 P.mb 0 none aX W (aC hW (aA HM.out 1)))
 have HO:=Hd (fun n W=>rV n W)
 have HT0:Hid (∀j,w.cell? ⟨v.heap.size,j,none⟩=(iV 1 aX aJ0 500 0 0 0 0)[j]?):=Hd (fun j=>aA HG.out.cmd j)
 have HBm:=Hd hB
 have HBW:=Hd hBw
 clear hm hq hN hB hml hmw hBw
 go_enter func24,ntmps24
 go_wp2_with fail
 rw[←hw]
 clear hw
 refine(HN.out w).mono ?_
 rintro e W1 ⟨rfl,hb⟩
 have HB1:Hid (Below w.heap.size w W1):=Hd hb
 have q1:W1.cell? ⟨v.heap.size,1,none⟩=some (.string aX):=aC hb (HT0.out 1)
 have hlv:v.heap.size<W1.heap.size:=bL W1 ⟨v.heap.size,1,none⟩ q1
 clear hb
 go_wp2_with fail
 refine(HP.out W1 HB1.out).mono ?_
 rintro e W2 ⟨rfl,hb⟩
 have HB2:=bst w hb
 have q2:W2.cell? ⟨v.heap.size,1,none⟩=some (.string aX):=aC HB2.out (HT0.out 1)
 have hlv2:v.heap.size<W2.heap.size:=bL W2 ⟨v.heap.size,1,none⟩ q2
 have hm2:W2.heap[P.mb]?=some (.cells (qF P.qb (.slice none 0 0) (.slice none 0 0) (.slice none 0 0)) 73 (0,0)):=(HB2.out.block _ (gLt HM.out)).trans HM.out
 have m1:W2.cell? ⟨P.mb,1,none⟩=some (.slice none 0 0):=aA hm2 1
 have m4:W2.cell? ⟨P.mb,4,none⟩=some (.slice none 0 0):=aA hm2 4
 have m5:W2.cell? ⟨P.mb,5,none⟩=some (.slice none 0 0):=aA hm2 5
 have mf:∀o,W2.frozen? ⟨P.mb,o,none⟩=false:=fun o=>fH hm2 o
 have ml:=(gLt hm2)
 have HM2:=Hd hm2
 clear hb q1 hlv hm2
 go_wp2_with fail
 go_region_law (first
  |(refine cO dSk _ (by rfl) _ _ _ (by rfl) P.B 143 i1 _ 96 underlying67 hi1 iz1 isz1 iby1 rfl none 0 _ [] (by rfl) rfl ?_ _ _ _ [⟨aX,none,none,0,0,0,0,none,0,0,0⟩] (by rfl) rfl ?_ ?_ ?_ ?_ ?_;(exact En.Own.none_ _ _ _);(exact(eU dSk W2 143 _ _ rfl).below blw);(simp);(simp);(exact Nat.le_trans HBW.out (show Below w.heap.size w _ from blw).size);(intro A3 c3 w3 hown3 hg hat;have hgp:=pK (k:=1) HM2.out blw hg (.slice A3 1 c3) rfl;have HO3:=Hd hown3;have HGP3:=Hd hgp;have HW3:Hid (Below w.heap.size w w3):=Hd (aD (w:=w) blw (mG hg));have HS3:Hid (P.B≤w3.heap.size):=Hd (Nat.le_trans HBW.out HW3.out.size);have x4:=aA hgp.1 4;have x5:=aA hgp.1 5;have x1:=aA hgp.1 1;have xf:∀o,w3.frozen? ⟨P.mb,o,none⟩=false:=fun o=>fH hgp.1 o;have xl:=(gLt hgp.1);clear hown3 hat hg hgp)))
 all_goals go_wp2_with (first
  |(at_builtin;refine aV Out.dO _ rfl _ _ 69 rfl P.B 145 i2 _ 40 underlying69 hi2 iz2 isz2 iby2 rfl none 0 0 [] rfl rfl (En.Own.none_ _ _ _) _ 1 1 [⟨0,0,0,0,0⟩] rfl rfl (aKh Out.dO _ 145 _ ⟨0,0,0,0,0⟩ _ rfl _ _ rfl) (by simp) (by simp) (by have:=HS3.out;simp;omega) ?_;intro A4 c4 w4 hown4 hg hat;have hgp:=pK (k:=4) HGP3.out.2 (aB bR _) hg (.slice A4 1 c4) rfl;have HO4:=Hd hown4;have HGP4:=Hd hgp;have HW4:Hid (Below (w3.setCell ⟨P.mb,1,none⟩ (.slice A3 1 c3)).heap.size (w3.setCell ⟨P.mb,1,none⟩ (.slice A3 1 c3)) w4):=Hd (aD (aB bR _) (mG hg));have HS4:Hid (P.B≤w4.heap.size):=Hd (Nat.le_trans HS3.out (by have:=HW4.out.size;simpa[World.setCell] using this));have y5:=aA hgp.1 5;have y4:=aA hgp.1 4;have y1:=aA hgp.1 1;have yf:∀o,w4.frozen? ⟨P.mb,o,none⟩=false:=fun o=>fH hgp.1 o;have yl:=(gLt hgp.1);clear hown4 hat hg hgp x4 x5 x1 xf xl)
  |(at_builtin;refine aV dSh _ rfl _ _ 70 rfl P.B 147 i3 _ 16 underlying70 hi3 iz3 isz3 iby3 rfl none 0 0 [] rfl rfl (En.Own.none_ _ _ _) _ 1 1 [(0,500)] rfl rfl (aKh dSh _ 147 _ (0,500) _ rfl _ _ rfl) (by simp) (by simp) (by have:=HS4.out;simp;omega) ?_;intro A5 c5 w5 hown5 hg hat;have hgp:=pK (k:=5) HGP4.out.2 (aB bR _) hg (.slice A5 1 c5) rfl;have HO5:=Hd hown5;have HGP5:=Hd hgp;have HW5:Hid (Below (w4.setCell ⟨P.mb,4,none⟩ (.slice A4 1 c4)).heap.size (w4.setCell ⟨P.mb,4,none⟩ (.slice A4 1 c4)) w5):=Hd (aD (aB bR _) (mG hg));have z1:=aA hgp.1 1;have z5:=aA hgp.1 5;have zf:∀o,w5.frozen? ⟨P.mb,o,none⟩=false:=fun o=>fH hgp.1 o;have zl:=(gLt hgp.1);clear hown5 hat hg hgp y1 y4 y5 yf yl))
 all_goals (
  have HM5:=Hd (aOz HQ.out HBm.out HW3.out HGP3.out HW4.out HGP4.out HW5.out HGP5.out HO3.out HO4.out HO5.out)
  have HK5:=Hd (aF2 (v5:=.slice A5 1 c5) HBW.out HBm.out HW3.out HGP3.out.1 HW4.out HGP4.out.1 HW5.out HGP5.out.1)
  refine(HO.out 0 _).mono ?_
  rintro e W6 ⟨rfl,hb⟩
  have HM6:=Hd (HM5.out.imp fun _ h=>h.below hb)
  have HK6:=Hd (HK5.out.step HBW.out hb)
  obtain⟨r0,r1,rf,rl⟩:=nE HG.out HK6.out
  clear hb z1 z5 zf zl
  go_wp2_with fail
  obtain⟨S,hS⟩:=HM6.out
  exact bodyPost_ret (v:=.agg #[.int .i64 0,.int .i64 0]) (by simp[results,results24,go_sem, *]) rfl ⟨rfl,nF hS HG.out HBv.out HK6.out _ _⟩)
end Go.Proofs.YtlibhkkckgkkkaaGreatDoor.Tf
