/- Part of the proof of TopFeeds: QuC. -/
import Derived.Test.YtlibhkkckgkkkaaGreatDoorZBD
set_option maxHeartbeats 2000000
set_option maxRecDepth 100000
namespace Go.Proofs.YtlibhkkckgkkkaaGreatDoor.Tf
open Go.RowKit Go.Proofs.YtlibhkkckgkkkaaGreatDoor.Mem Go.Proofs.YtlibhkkckgkkkaaGreatDoor.Boo Go.Proofs.Tryz
theorem kP.toI {hb pb B:Nat} {p:Int} {w:World} (h:kP hb pb B [(0,p)] w):∃ib c,HpI hb pb B ib c p w:=by
 obtain⟨A,c,es,clk,h1,h2,h3,h4⟩:=h.ex
 obtain⟨born,rfl⟩:∃born,es=#[⟨.int .i64 0,.int .i64 0,born⟩]:=by
  rcases h4 with⟨e,_⟩|⟨q,b,_,rfl⟩
  ·cases e
  ·exact⟨b,rfl⟩
 rcases h2.form with⟨_,_,e⟩|⟨g,rfl,_⟩
 ·cases e
 ·exact⟨g,c,h1,h2,born,clk,h3⟩
theorem HpI.toAt {hb pb B ib c:Nat} {p:Int} {w:World} (h:HpI hb pb B ib c p w):kP hb pb B [(0,p)] w:=by
 obtain⟨h1,h2,born,clk,h3⟩:=h
 exact⟨_,_,_,clk,h1,h2,h3,.inr ⟨p,born,rfl,rfl⟩⟩
structure iE (hb pb db B:Nat) (w w':World):Prop where
 below:Below B w w'
 other:∀i o,w.heap[i]?=some o→i≠hb→i≠pb→i≠db→(∀c f,o≠.cells c 253 f)→w'.heap[i]?=some o
 size:w.heap.size≤w'.heap.size
theorem iF.toQ {hb pb B:Nat} {w w':World} (h:iF hb pb B w w') (db:Nat):iE hb pb db B w w':=⟨h.below,fun i o hi h1 h2 _ ho=>h.other i o hi h1 h2 ho,h.size⟩
theorem iE.mput {hb pb db B:Nat} {w W:World} (h:iE hb pb db B w W) (hB:B≤db) (es:Array MapEntry) (clk:Nat):iE hb pb db B w (qG W db es clk):=
 ⟨lF h.below hB es clk,fun i o hi h1 h2 h3 ho=>(eD W db es clk i h3).trans (h.other i o hi h1 h2 h3 ho),by show _≤(W.heap.setIfInBounds db _).size;simp;exact h.size⟩
theorem kP.mput {hb pb B:Nat} {xs:List (Int×Int)} {w:World} (h:kP hb pb B xs w) {db clk:Nat} {es:Array MapEntry} (hd:w.heap[db]?=some (.map es clk)) (hne:db≠pb) (es':Array MapEntry) (clk':Nat):kP hb pb B xs (qG w db es' clk'):=by
 obtain⟨A,c,es2,clk2,h1,h2,h3,h4⟩:=h.ex
 have hbd:hb≠db:=by
  intro e
  rw[e,hd] at h1
  cases h1
 exact⟨A,c,es2,clk2,(eD w db _ _ hb hbd).trans h1,rR h2 hd _ _,(eD w db _ _ pb hne.symm).trans h3,h4⟩
theorem sD {hb pb db B:Nat} {xs:List (Int×Int)} {w w':World} {clk:Nat} (h:kP hb pb B xs w) (hd:w.heap[db]?=some (.map #[] clk)) (hne:db≠pb) (k:iF hb pb B w w'):w'.heap[db]?=some (.map #[] clk):=by
 obtain⟨A,c,es2,clk2,h1,h2,h3,h4⟩:=h.ex
 exact k.other db _ hd (by intro e;rw[e,h1] at hd;cases hd) hne (fun c f e=>by cases e)
theorem pP {hb pb B qb:Nat} {xs:List (Int×Int)} {V:Array Value} {w w':World} (h:kP hb pb B xs w) (hd:w.heap[qb]?=some (.cells V 135 (0,0))) (k:iF hb pb B w w'):w'.heap[qb]?=some (.cells V 135 (0,0)):=by
 obtain⟨A,c,es2,clk2,h1,h2,h3,h4⟩:=h.ex
 refine k.other qb _ hd ?_ ?_ (fun c f e=>by cases e)
 ·intro e
  rw[e,h1] at hd
  cases hd
 ·intro e
  rw[e,h3] at hd
  cases hd
theorem aCs (qb hb pb db B p:Nat) (hp:p≤1000) (w:World) (h:fB qb hb pb db B [] w):Calls prog 124 #[.pointer (some ⟨qb,0,none⟩),.int .i64 0,.int .i64 p,.int .i64 0] w fun e w'=>e=.returned (.int .i64 0)∧(∃q,fB qb hb pb db B [(0,q)] w')∧iE hb pb db B w w':=by
 obtain⟨h1,h2,⟨clk,h3⟩,h4,l1,l2,l3,l4⟩:=h
 have HPR:Hid (Calls prog 210 #[.pointer (some ⟨hb,0,none⟩),.int .i64 0] w fun e w'=>e=.returned (.tuple #[.int .i64 0,.bool false])∧w=w'):=Hd ((aDk hb pb B w h2).mono (fun _ _ h=>⟨h.1,h.2.symm⟩))
 have HPU:=Hd (fun q=>aGu hb pb B l2 l3 q w h2)
 have c0:w.cell? ⟨qb,0,none⟩=some (.pointer (some ⟨hb,0,none⟩)):=aA h1 0
 have c1:w.cell? ⟨qb,1,none⟩=some (.int .i64 10):=aA h1 1
 have c2:w.cell? ⟨qb,2,none⟩=some (.map (some db)):=aA h1 2
 have z1:¬(p:Int)<0:=by omega
 have z2:¬(1000:Int)<(p:Int):=by omega
 have H1:=Hd h1
 have H2:=Hd h2
 have H3:=Hd h3
 have H4:=Hd h4
 clear h1 h2 h3 h4 hp
 go_enter func124,ntmps124
 go_wp2_with (first
  |(go_at_call 210;go_must (refine HPR.out.mono ?_;rintro e w' ⟨rfl,rfl⟩))
  |(go_at_call 212;go_must (refine(HPU.out _).mono ?_;rintro e W1 ⟨rfl,⟨ib,c,hI⟩,hk⟩;have d3:=sD H2.out H3.out H4.out hk;have d1:=pP H2.out H1.out hk;have e2:W1.cell? ⟨qb,2,none⟩=some (.map (some db)):=aA d1 2;have hdel:=fun ty=>aJg (ty:=ty) (k:=0) underlying133 underlying3 d3;have D1:=Hd d1;have D3:=Hd d3;have HI:=Hd hI;have HK:=Hd hk;clear d1 d3 hI hk)))
 go_ret
 refine⟨rfl,⟨_,⟨(eD _ db _ _ qb ?_).trans D1.out,HI.out.toAt.mput D3.out H4.out _ _,⟨clk,qP D3.out⟩,H4.out,l1,l2,l3,l4⟩⟩,(HK.out.toQ db).mput l4 _ _⟩
 intro e
 have:=D1.out
 rw[e,D3.out] at this
 cases this
theorem aCr (qb hb pb db B p:Nat) (hp:p≤1000) (q:Int) (w:World) (h:fB qb hb pb db B [(0,q)] w):Calls prog 124 #[.pointer (some ⟨qb,0,none⟩),.int .i64 0,.int .i64 p,.int .i64 0] w fun e w'=>e=.returned (.int .i64 0)∧(∃q,fB qb hb pb db B [(0,q)] w')∧iE hb pb db B w w':=by
 obtain⟨h1,h2,⟨clk,h3⟩,h4,l1,l2,l3,l4⟩:=h
 obtain⟨ib,c,hI⟩:=h2.toI
 have HPR:Hid (Calls prog 210 #[.pointer (some ⟨hb,0,none⟩),.int .i64 0] w fun e w'=>e=.returned (.tuple #[.int .i64 q,.bool true])∧w=w'):=Hd ((aGx hb pb B ib c q w hI).mono (fun _ _ h=>⟨h.1,h.2.symm⟩))
 have HCH:=Hd (fun r=>aA7 hb pb B ib c q r w hI)
 have HRK:=Hd (wC hI)
 have c0:w.cell? ⟨qb,0,none⟩=some (.pointer (some ⟨hb,0,none⟩)):=aA h1 0
 have c1:w.cell? ⟨qb,1,none⟩=some (.int .i64 10):=aA h1 1
 have c2:w.cell? ⟨qb,2,none⟩=some (.map (some db)):=aA h1 2
 have z1:¬(p:Int)<0:=by omega
 have z2:¬(1000:Int)<(p:Int):=by omega
 have H1:=Hd h1
 have H2:=Hd h2
 have H3:=Hd h3
 have H4:=Hd h4
 clear h1 h2 h3 h4 hp hI
 go_enter func124,ntmps124
 go_wp2_with (first
  |(go_at_call 210;go_must (refine HPR.out.mono ?_;rintro e w' ⟨rfl,rfl⟩))
  |(go_at_call 211;go_must (refine(HCH.out _).mono ?_;rintro e W1 ⟨rfl,hI,hk⟩;have HI:=Hd hI;have HK:=Hd (hk.toH HRK.out);clear hI hk)))
 all_goals go_ret
 all_goals exact⟨rfl,⟨_,⟨pP H2.out H1.out HK.out,HI.out.toAt,⟨clk,sD H2.out H3.out H4.out HK.out⟩,H4.out,l1,l2,l3,l4⟩⟩,HK.out.toQ db⟩
end Go.Proofs.YtlibhkkckgkkkaaGreatDoor.Tf
