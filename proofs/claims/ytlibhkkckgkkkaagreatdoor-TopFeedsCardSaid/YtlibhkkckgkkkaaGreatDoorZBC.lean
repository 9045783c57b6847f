/- Part of the proof of TopFeeds: CnfA CnfB HepA LawA PacA. -/
import Derived.Test.YtlibhkkckgkkkaaGreatDoorZBB
set_option maxHeartbeats 4000000
set_option maxRecDepth 100000
namespace Go.Proofs.YtlibhkkckgkkkaaGreatDoor.Tf
open Go.RowKit Go.Proofs.YtlibhkkckgkkkaaGreatDoor.Mem Go.Proofs.YtlibhkkckgkkkaaGreatDoor.Boo Go.Proofs.Tryz
structure Cf where
 lo:Int
 hi:Int
 co:Int
 a:Int
 b:Int
 x:Ex
abbrev Cf.v (C:Cf):Value:=.agg #[.int .i64 C.lo,.int .i64 C.hi,.int .i64 C.co,.int .i64 C.a,.int .i64 C.b,.string (bl (aM C.x))]
structure mB (C:Cf):Prop where
 lo:1≤C.lo
 hi:C.lo≤C.hi
 top:C.hi≤4000
 co:0≤C.co
 co2:C.co≤C.hi
 a:0≤C.a
 a2:C.a≤12
 b:0≤C.b
 b2:C.b≤60
 gen:Gen 5 false C.x
 len:(aM C.x).length≤2000
theorem wO (lo hi co a b:Int) (s:ByteArray) (h1:1≤lo) (h2:lo≤hi) (h3:hi≤4000) (h4:0≤co) (h5:co≤hi) (h6:0≤a) (h7:a≤12) (h8:0≤b) (h9:b≤60) (w:World):
 Calls prog 86 #[.agg #[.int .i64 lo,.int .i64 hi,.int .i64 co,.int .i64 a,.int .i64 b,.string s]] w (Ret (.bool true) w):=by
 have n1:¬lo<1:=by omega
 have n2:¬hi<lo:=by omega
 have n3:¬(1000000000000:Int)<hi:=by omega
 have n4:¬co<0:=by omega
 have n5:¬hi<co:=by omega
 have n6:¬a<0:=by omega
 have n7:¬(1048576:Int)<a:=by omega
 have n8:¬b<0:=by omega
 have n9:¬(1000000000000:Int)<b:=by omega
 clear h1 h2 h3 h4 h5 h6 h7 h8 h9
 have ix0:∀W,(Instr.index 270 (.agg #[.int .i64 1,.int .i64 lo,.int .i64 hi,.int .i64 lo,.int .i64 hi,.int .i64 1000000000000,.int .i64 0,.int .i64 co,.int .i64 hi,.int .i64 0,.int .i64 a,.int .i64 1048576,.int .i64 0,.int .i64 b,.int .i64 1000000000000]) (.int .i64 0)).run prog W=.ok (.agg #[.int .i64 1,.int .i64 lo,.int .i64 hi]) W:=fun W=>by kernel_rfl
 have ix1:∀W,(Instr.index 270 (.agg #[.int .i64 1,.int .i64 lo,.int .i64 hi,.int .i64 lo,.int .i64 hi,.int .i64 1000000000000,.int .i64 0,.int .i64 co,.int .i64 hi,.int .i64 0,.int .i64 a,.int .i64 1048576,.int .i64 0,.int .i64 b,.int .i64 1000000000000]) (.int .i64 1)).run prog W=.ok (.agg #[.int .i64 lo,.int .i64 hi,.int .i64 1000000000000]) W:=fun W=>by kernel_rfl
 have ix2:∀W,(Instr.index 270 (.agg #[.int .i64 1,.int .i64 lo,.int .i64 hi,.int .i64 lo,.int .i64 hi,.int .i64 1000000000000,.int .i64 0,.int .i64 co,.int .i64 hi,.int .i64 0,.int .i64 a,.int .i64 1048576,.int .i64 0,.int .i64 b,.int .i64 1000000000000]) (.int .i64 2)).run prog W=.ok (.agg #[.int .i64 0,.int .i64 co,.int .i64 hi]) W:=fun W=>by kernel_rfl
 have ix3:∀W,(Instr.index 270 (.agg #[.int .i64 1,.int .i64 lo,.int .i64 hi,.int .i64 lo,.int .i64 hi,.int .i64 1000000000000,.int .i64 0,.int .i64 co,.int .i64 hi,.int .i64 0,.int .i64 a,.int .i64 1048576,.int .i64 0,.int .i64 b,.int .i64 1000000000000]) (.int .i64 3)).run prog W=.ok (.agg #[.int .i64 0,.int .i64 a,.int .i64 1048576]) W:=fun W=>by kernel_rfl
 have ix4:∀W,(Instr.index 270 (.agg #[.int .i64 1,.int .i64 lo,.int .i64 hi,.int .i64 lo,.int .i64 hi,.int .i64 1000000000000,.int .i64 0,.int .i64 co,.int .i64 hi,.int .i64 0,.int .i64 a,.int .i64 1048576,.int .i64 0,.int .i64 b,.int .i64 1000000000000]) (.int .i64 4)).run prog W=.ok (.agg #[.int .i64 0,.int .i64 b,.int .i64 1000000000000]) W:=fun W=>by kernel_rfl
 go_enter func86,ntmps86
 go_wp2_with fail
 go_loopw [27] (fun iv wr=>∃i:Nat,i≤5∧iv=.int .i64 i∧Hid (Below w.heap.size w wr)) (fun iv _=>5-(intOf iv).toNat)
 case atStart=>exact⟨0,Nat.zero_le _,rfl,Hd blw⟩
 case round=>
  obtain⟨i,hi5,rfl,HB⟩:=hrel
  rcases Nat.lt_or_ge i 5 with hlt|hge
  ·obtain rfl|rfl|rfl|rfl|rfl:i=0∨i=1∨i=2∨i=3∨i=4:=by omega
   ·go_wp2_with fail
    go_roundw
    case rel=>first|exact⟨1,by decide,rfl,Hd blw⟩|((repeat apply Exists.intro);exact⟨⟨1,by decide,rfl,Hd blw⟩,rfl⟩)
    case measure=>first|decide|(simp[intOf];done)
   ·go_wp2_with fail
    go_roundw
    case rel=>first|exact⟨2,by decide,rfl,Hd blw⟩|((repeat apply Exists.intro);exact⟨⟨2,by decide,rfl,Hd blw⟩,rfl⟩)
    case measure=>first|decide|(simp[intOf];done)
   ·go_wp2_with fail
    go_roundw
    case rel=>first|exact⟨3,by decide,rfl,Hd blw⟩|((repeat apply Exists.intro);exact⟨⟨3,by decide,rfl,Hd blw⟩,rfl⟩)
    case measure=>first|decide|(simp[intOf];done)
   ·go_wp2_with fail
    go_roundw
    case rel=>first|exact⟨4,by decide,rfl,Hd blw⟩|((repeat apply Exists.intro);exact⟨⟨4,by decide,rfl,Hd blw⟩,rfl⟩)
    case measure=>first|decide|(simp[intOf];done)
   ·go_wp2_with fail
    go_roundw
    case rel=>first|exact⟨5,by decide,rfl,Hd blw⟩|((repeat apply Exists.intro);exact⟨⟨5,by decide,rfl,Hd blw⟩,rfl⟩)
    case measure=>first|decide|(simp[intOf];done)
  ·obtain rfl:i=5:=by omega
   go_wp2_with fail
   go_ret
   exact⟨rfl,HB.out⟩
theorem aBy (lo hi co a b:Int) (s:ByteArray) (w:World):
 Calls prog 38 #[.agg #[.int .i64 lo,.int .i64 hi,.int .i64 co,.int .i64 a,.int .i64 b,.string s]] w (Ret (.int .i64 (max lo co)) w):=by
 go_enter func38,ntmps38
 go_wp2_with fail
 go_ret
 exact⟨by first|rfl|(congr 2;done)|(congr 2;simp[Int.max_def]),blw⟩
theorem tI (C:Cf) (h:mB C) (w:World) (G:Gl w):
 Calls prog 36 #[C.v] w fun e w'=>∃v:EV,e=.returned (.tuple #[v.v,.int .i64 0])∧bB (fun b=>w.heap.size≤b) w' C.x v∧Below w.heap.size w w':=by
 have HNU:Hid (∀W,Calls prog 86 #[C.v] W (Ret (.bool true) W)):=Hd (fun W=>wO C.lo C.hi C.co C.a C.b _ h.lo h.hi h.top h.co h.co2 h.a h.a2 h.b h.b2 W)
 have HPA:Hid (∀W,Below w.heap.size w W→Calls prog 13 #[.string (bl (aM C.x))] W fun e w'=>(∃v:EV,e=.returned (.tuple #[.agg #[.int .i64 v.k,.int .i64 v.n,.string v.s,.slice v.A v.m v.c],.int .i64 0,.int .i64 0])∧bB (fun b=>W.heap.size≤b) w' C.x v)∧Below W.heap.size W w'):=Hd (fun W hW=>rN h.gen (by decide) h.len W (G.below hW))
 have HRI:Hid (∀W (v:EV) S,Below w.heap.size w W→bB S W C.x v→Calls prog 44 #[v.v] W (Ret (.bool true) W)):=Hd (fun W v S hW hat=>uO h.gen h.len S v W (G.below hW) hat)
 obtain⟨lo,hi,co,a,b,x⟩:=C
 unfold Cf.v at *
 dsimp only at *
 generalize bl (aM x)=s at *
 clear h G
 go_enter func36,ntmps36
 go_wp2_with (first
  |(go_at_call 86;go_must (refine rC w (HNU.out _) ?_;intro wq1 hb Bq1;obtain⟨⟨kc1_0_0,kc1_0_1,kc1_0_2,kc1_0_3,kc1_0_4,kc1_0_5⟩,kl1_0,kf1_0⟩:=kb6 hb (w.heap.size) (.int .i64 lo) (.int .i64 hi) (.int .i64 co) (.int .i64 a) (.int .i64 b) (.string s);obtain⟨⟨kc1_1_0,kc1_1_1,kc1_1_2,kc1_1_3⟩,kl1_1,kf1_1⟩:=kb4 hb (w.heap.size+1) (.int .i64 0) (.int .i64 0) (.string ⟨#[]⟩) (.slice none 0 0);clear hb))
  |(go_at_call 13;go_must (refine(HPA.out _ blw).mono ?_;rintro e W1 ⟨⟨v,rfl,hat⟩,hb⟩;have HB1:=bst w hb;have HA1:=Hd hat;(obtain⟨⟨kc2_0_0,kc2_0_1,kc2_0_2,kc2_0_3,kc2_0_4,kc2_0_5⟩,kl2_0,kf2_0⟩:=kb6 hb (w.heap.size) (.int .i64 lo) (.int .i64 hi) (.int .i64 co) (.int .i64 a) (.int .i64 b) (.string s);obtain⟨⟨kc2_1_0,kc2_1_1,kc2_1_2,kc2_1_3⟩,kl2_1,kf2_1⟩:=kb4 hb (w.heap.size+1) (.int .i64 0) (.int .i64 0) (.string ⟨#[]⟩) (.slice none 0 0));clear hb hat;obtain⟨k,n,t,A,m,c⟩:=v))
  |(go_at_call 44;go_must (refine(HRI.out _ ⟨k,n,t,A,m,c⟩ _ blw (HA1.out.onBelow (aB bR _))).mono ?_;rintro e W2 ⟨rfl,hb⟩;have HB2:=bst w hb;have HA2:=Hd ((HA1.out.onBelow (aB bR _)).onBelow hb);(obtain⟨⟨kc3_0_0,kc3_0_1,kc3_0_2,kc3_0_3⟩,kl3_0,kf3_0⟩:=kb4 hb (W1.heap.size) (.int .i64 k) (.int .i64 n) (.string t) (.slice A m c);obtain⟨⟨kc3_1_0,kc3_1_1,kc3_1_2,kc3_1_3⟩,kl3_1,kf3_1⟩:=kb4 hb (w.heap.size+1) (.int .i64 0) (.int .i64 0) (.string ⟨#[]⟩) (.slice none 0 0));clear hb)))
 refine bodyPost_ret (v:=.tuple #[.agg #[.int .i64 k,.int .i64 n,.string t,.slice A m c],.int .i64 0]) (by simp[results,results36,go_sem, *]) rfl ⟨⟨k,n,t,A,m,c⟩,rfl,?_,?_⟩
 ·refine bB.mono (S:=fun b=>w.heap.size+2≤b) ?_ (fun b hb _=>by show w.heap.size≤b;have:w.heap.size+2≤b:=hb;omega)
  repeat(first|exact HA2.out.mono (fun b hb _=>by show w.heap.size+2≤b;omega)|refine bB.set ?_ (by show ¬w.heap.size+2≤w.heap.size+1;omega) _)
 ·repeat(first|exact HB2.out|refine aF ?_ (by simp;try omega) _)
theorem uC (C:Cf) (h:mB C) (w:World) (G:Gl w):Calls prog 62 #[C.v] w (Ret (.int .i64 0) w):=by
 have HST:Hid (∀W,Below w.heap.size w W→Calls prog 36 #[C.v] W fun e w'=>∃v:EV,e=.returned (.tuple #[v.v,.int .i64 0])∧bB (fun b=>W.heap.size≤b) w' C.x v∧Below W.heap.size W w'):=Hd (fun W hW=>tI C h W (G.below hW))
 obtain⟨lo,hi,co,a,b,x⟩:=C
 unfold Cf.v at *
 dsimp only at *
 generalize bl (aM x)=s at *
 clear h G
 go_enter func62,ntmps62
 go_wp2_with (first
  |(go_at_call 36;go_must (refine(HST.out _ blw).mono ?_;rintro e W1 ⟨v,rfl,hat,hb⟩;have HB1:=bst w hb;clear hb hat;obtain⟨k,n,t,A,m,c⟩:=v;unfold EV.v)))
 go_ret
 exact⟨rfl,blw⟩
def eO (C:Cf) (L:List aW):Int×Bool:=
 let r:=uN (fun k n s=>cC k n s L) L.length (cgX C.x 0)
 if r.2.2=0∧r.2.1=true then(MoneyA.gF r.1 (max C.lo C.co) C.hi,true) else(0,false)
theorem mZ (C:Cf) (h:mB C) (L:List aW) (hL:iY L) (OA:Option Addr) (oc om:Nat) (hm:L.length=om) (w:World) (G:Gl w) (ho:dF.At w OA oc L):
 Calls prog 12 #[C.v,.slice OA om oc] w (Ret (.tuple #[.int .i64 (eO C L).1,.bool (eO C L).2]) w):=by
 have hcl:=aJv 5 false C.x h.gen 0
 have hco:=aOs 5 false C.x h.gen 0
 rw[Nat.zero_add] at hco
 have HST:Hid (∀W,Below w.heap.size w W→Calls prog 36 #[C.v] W fun e w'=>∃v:EV,e=.returned (.tuple #[v.v,.int .i64 0])∧bB (fun b=>W.heap.size≤b) w' C.x v∧Below W.heap.size W w'):=Hd (fun W hW=>tI C h W (G.below hW))
 have HCO:Hid (∀W S (v:EV),Below w.heap.size w W→bB S W C.x v→Calls prog 14 #[v.v] W fun e w'=>∃A c,e=.returned (.tuple #[.slice A (cgX C.x 0).length c,.int .i64 0])∧dI.Own 197 w' W.heap.size A c (cgX C.x 0)∧Below W.heap.size W w'):=Hd (fun W S v hW hat=>tZ h.gen h.len S v W (G.below hW) hat)
 have HRU:Hid (∀W CA cc r,uN (fun k n s=>cC k n s L) L.length (cgX C.x 0)=r→Below w.heap.size w W→dI.At W CA cc (cgX C.x 0)→Calls prog 15 #[.slice CA (cgX C.x 0).length cc,.slice OA om oc] W (Ret (.tuple #[.int .i64 r.1,.bool r.2.1,.int .i64 r.2.2]) W)):=Hd (fun W CA cc r hr hW hc=>mD (cgX C.x 0) (by omega) hco CA cc _ rfl L hL OA oc om hm W (G.below hW) hc (ho.below hW) r (by rw[←hm];exact hr))
 have HTF:Hid (∀r,uN (fun k n s=>cC k n s L) L.length (cgX C.x 0)=r→eO C L=if r.2.2=0∧r.2.1=true then(MoneyA.gF r.1 (max C.lo C.co) C.hi,true) else(0,false)):=Hd (fun r hr=>by unfold eO;rw[hr])
 generalize uN (fun k n s=>cC k n s L) L.length (cgX C.x 0)=r at HRU HTF
 replace HRU:=Hd (fun W CA cc=>HRU.out W CA cc r rfl)
 replace HTF:=HTF.out r rfl
 obtain⟨lo,hi,co,a,b,x⟩:=C
 unfold Cf.v at *
 dsimp only at *
 generalize bl (aM x)=s at *
 generalize cgX x 0=l at HCO HRU
 generalize hcn:l.length=cn at HCO HRU
 have HLO:=Hd (fun W=>aBy lo hi co a b s W)
 obtain⟨r1,r2,r3⟩:=r
 dsimp only at *
 have HCN:=Hd hcn
 clear h G ho hL hm hcl hco hcn
 by_cases hr:r3=0∧r2=true
 ·rw[if_pos hr] at HTF
  obtain⟨rfl,rfl⟩:=hr
  have HT:=Hd HTF
  have HCP:Hid (∀W q,Calls prog 37 #[.int .i64 r1,.int .i64 q,.int .i64 hi] W fun e w'=>e=.returned (.int .i64 (MoneyA.gF r1 q hi))∧w'=W):=Hd (fun W q=>MoneyA.uB r1 q hi W)
  clear HTF
  go_enter func12,ntmps12
  go_wp2_with (first
   |(go_at_call 36;go_must (refine(HST.out _ blw).mono ?_;rintro e W1 ⟨v,rfl,hat,hb⟩;have HB1:=bst w hb;have HA1:=Hd hat;(obtain⟨⟨kc1_0_0,kc1_0_1,kc1_0_2,kc1_0_3,kc1_0_4,kc1_0_5⟩,kl1_0,kf1_0⟩:=kb6 hb (w.heap.size) (.int .i64 lo) (.int .i64 hi) (.int .i64 co) (.int .i64 a) (.int .i64 b) (.string s));clear hb hat;obtain⟨k,n,t,A,m,c⟩:=v;unfold EV.v))
   |(go_at_call 14;go_must (refine(HCO.out _ _ ⟨k,n,t,A,m,c⟩ blw (HA1.out.onBelow (aB bR _))).mono ?_;rintro e W2 ⟨CA,cc,rfl,hown,hb⟩;have HB2:=bst w hb;have HC2:=Hd hown;(obtain⟨⟨kc2_0_0,kc2_0_1,kc2_0_2,kc2_0_3,kc2_0_4,kc2_0_5⟩,kl2_0,kf2_0⟩:=kb6 hb (w.heap.size) (.int .i64 lo) (.int .i64 hi) (.int .i64 co) (.int .i64 a) (.int .i64 b) (.string s));clear hb hown))
   |(go_at_call 15;go_must (refine rC w (HRU.out _ CA cc blw HC2.out.at_) ?_;intro W3 hb HB3;(obtain⟨⟨kc3_0_0,kc3_0_1,kc3_0_2,kc3_0_3,kc3_0_4,kc3_0_5⟩,kl3_0,kf3_0⟩:=kb6 hb (w.heap.size) (.int .i64 lo) (.int .i64 hi) (.int .i64 co) (.int .i64 a) (.int .i64 b) (.string s));clear hb)))
  go_region_with (first
   |(go_at_call 38;go_must (refine rC w (HLO.out _) ?_;intro wq4 hb Bq4;obtain⟨⟨kc4_0_0,kc4_0_1,kc4_0_2,kc4_0_3,kc4_0_4,kc4_0_5⟩,kl4_0,kf4_0⟩:=kb6 hb (w.heap.size) (.int .i64 lo) (.int .i64 hi) (.int .i64 co) (.int .i64 a) (.int .i64 b) (.string s);clear hb))
   |(go_at_call 37;go_must (refine(HCP.out _ _).mono ?_;rintro e W4 ⟨rfl,rfl⟩)))
  all_goals go_wp2_with fail
  all_goals go_ret2
  all_goals exact⟨by rw[HT.out];rfl,blw⟩
 ·rw[if_neg hr] at HTF
  have HT:=Hd HTF
  clear HTF
  have hr2:(r3 !=0)=true∨((r3 !=0)=false∧r2=false):=by
   by_cases h3:r3=0
   ·exact .inr ⟨by simp[h3],by cases r2;rfl;exact absurd ⟨h3,rfl⟩ hr⟩
   ·exact .inl (by simp[h3])
  clear hr
  rcases hr2 with z3|⟨z3,rfl⟩
  all_goals
   go_enter func12,ntmps12
   go_wp2_with (first
    |(go_at_call 36;go_must (refine(HST.out _ blw).mono ?_;rintro e W1 ⟨v,rfl,hat,hb⟩;have HB1:=bst w hb;have HA1:=Hd hat;clear hb hat;obtain⟨k,n,t,A,m,c⟩:=v;unfold EV.v))
    |(go_at_call 14;go_must (refine(HCO.out _ _ ⟨k,n,t,A,m,c⟩ blw (HA1.out.onBelow (aB bR _))).mono ?_;rintro e W2 ⟨CA,cc,rfl,hown,hb⟩;have HB2:=bst w hb;have HC2:=Hd hown;clear hb hown))
    |(go_at_call 15;go_must (refine rB w (HRU.out _ CA cc blw HC2.out.at_) ?_;intro W3 HB3)))
   all_goals go_ret2
   all_goals exact⟨by rw[HT.out];rfl,blw⟩
def dIt:En (Int×Int):=⟨fun x=>[.int .i64 x.1,.int .i64 x.2],2,by omega,fun _=>rfl,fun x u hu=>by simp at hu;rcases hu with rfl|rfl <;> rfl⟩
theorem aMt:(prog.info? 253).map (fun i=>(i.zero,i.size,i.bytes))=some (some (.agg #[.int .i64 0,.int .i64 0]),2,16):=by kernel_rfl
structure kP (hb pb B:Nat) (xs:List (Int×Int)) (w:World):Prop where
 ex:∃A c es clk,w.heap[hb]?=some (.cells #[.slice A xs.length c,.map (some pb),.int .i64 4] 228 (0,0))∧dIt.Own 253 w B A c xs∧w.heap[pb]?=some (.map es clk)∧((xs=[]∧es=#[])∨∃p born,xs=[(0,p)]∧es=#[⟨.int .i64 0,.int .i64 0,born⟩])
theorem wS (k:Int) (v:Value) (born clk r:Nat) (w:World) (h:w.heap[r]?=some (.map #[⟨.int .i64 k,v,born⟩] clk)) (c:Bool):(Instr.lookup 97 (.map (some r)) (.int .i64 k) c).run prog w=.ok (if c then .tuple #[v,.bool true] else v) w:=
 nY (w:=w) (P:=prog) underlying97 underlying3 h k v (by simp) (by simp) c
theorem pF (hb pb B:Nat) (p:Int) (w:World) (h:kP hb pb B [(0,p)] w):Calls prog 270 #[.pointer (some ⟨hb,0,none⟩),.int .i64 0] w fun e w'=>e=.returned (.tuple #[.int .i64 0,.bool true])∧w'=w:=by
 obtain⟨A,c,es,clk,h1,h2,h3,h4⟩:=h.ex
 obtain⟨p',born,e1,rfl⟩:∃p born,[((0:Int),p)]=[(0,p)]∧es=#[⟨.int .i64 0,.int .i64 0,born⟩]:=by
  rcases h4 with⟨e,_⟩|⟨q,b,_,rfl⟩
  ·cases e
  ·exact⟨p,b,rfl,rfl⟩
 have hl:=wS 0 _ born clk pb w h3 true
 have c1:w.cell? ⟨hb,1,none⟩=some (.map (some pb)):=aA h1 1
 clear h h1 h2 h3
 go_enter func270,ntmps270
 go_wp2_with fail
 go_ret2
 exact⟨rfl,rfl⟩
theorem rM (hb pb B:Nat) (w:World) (h:kP hb pb B [] w):Calls prog 270 #[.pointer (some ⟨hb,0,none⟩),.int .i64 0] w fun e w'=>e=.returned (.tuple #[.int .i64 0,.bool false])∧w'=w:=by
 obtain⟨A,c,es,clk,h1,h2,h3,h4⟩:=h.ex
 obtain rfl:es=#[]:=by
  rcases h4 with⟨_,rfl⟩|⟨q,b,e,_⟩
  ·rfl
  ·cases e
 have hl:(Instr.lookup 97 (.map (some pb)) (.int .i64 0) true).run prog w=.ok (.tuple #[.int .i64 0,.bool false]) w:=aBz (P:=prog) underlying97 underlying3 h3 (.int .i64 0) (by first|trivial|rfl|exact⟨_,rfl⟩) (by simp) (by simp) (by kernel_rfl) true
 have c1:w.cell? ⟨hb,1,none⟩=some (.map (some pb)):=aA h1 1
 clear h h1 h2 h3 h4
 go_enter func270,ntmps270
 go_wp2_with fail
 go_ret2
 exact⟨rfl,rfl⟩
theorem aBg (hb:Nat) (w:World):Calls prog 271 #[.pointer (some ⟨hb,0,none⟩),.int .i64 0] w (Ret (.tuple #[]) w):=by
 go_enter func271,ntmps271
 go_wp2_with fail
 go_loopw [1] (fun iv wr=>iv=.int .i64 0∧wr=w) (fun _ _=>0)
 case atStart=>exact⟨rfl,rfl⟩
 case round=>
  obtain⟨rfl,rfl⟩:=hrel
  go_wp2_with fail
  go_region
  all_goals go_wp2
  all_goals go_end0
  all_goals exact⟨rfl,blw⟩
theorem aI9 (hb:Nat) (A:Option Addr) (c n:Nat) (hn:n≤1) (w:World) (c0:w.cell? ⟨hb,0,none⟩=some (.slice A n c)):Calls prog 272 #[.pointer (some ⟨hb,0,none⟩),.int .i64 0] w (Ret (.tuple #[]) w):=by
 have z1:¬(1:Int)<(n:Int):=by omega
 clear hn
 go_enter func272,ntmps272
 go_wp2_with fail
 go_loopw [1] (fun iv wr=>iv=.int .i64 0∧wr=w) (fun _ _=>0)
 case atStart=>exact⟨rfl,rfl⟩
 case round=>
  obtain⟨rfl,rfl⟩:=hrel
  go_wp2_with fail
  go_loopw [4,5] (fun iv jv wr'=>iv=.int .i64 0∧jv=.int .i64 1∧wr'=wr) (fun _ _ _=>0)
  case atStart=>exact⟨rfl,rfl,rfl⟩
  case round=>
   obtain⟨rfl,rfl,rfl⟩:=hrel
   go_wp2_with fail
   refine bodyPost_ret (results_none rfl _ _ _) rfl ⟨rfl,blw⟩
theorem aHx (hb:Nat) (A:Option Addr) (c n:Nat) (w:World) (c0:w.cell? ⟨hb,0,none⟩=some (.slice A n c)):Calls prog 279 #[.pointer (some ⟨hb,0,none⟩)] w fun e w'=>e=.returned (.int .i64 n)∧w'=w:=by
 go_enter func279,ntmps279
 go_wp2_with fail
 go_ret
 exact⟨rfl,rfl⟩
end Go.Proofs.YtlibhkkckgkkkaaGreatDoor.Tf
namespace Go.Proofs.YtlibhkkckgkkkaaGreatDoor.Tf
open Go.RowKit Go.Proofs.YtlibhkkckgkkkaaGreatDoor.Mem Go.Proofs.YtlibhkkckgkkkaaGreatDoor.Boo
theorem yU {xs ys:List Int} (h:xs.Perm ys):eJ xs=eJ ys:=by
 have tr:∀a b c:Int,decide (a≤b)=true→decide (b≤c)=true→decide (a≤c)=true:=fun a b c h1 h2=>by simp at *;omega
 have tot:∀a b:Int,(decide (a≤b) || decide (b≤a))=true:=fun a b=>by simp;omega
 refine List.Perm.eq_of_pairwise (le:=fun a b=>decide (a≤b)=true) (fun a b _ _ h1 h2=>by simp at h1 h2;omega) (List.pairwise_mergeSort tr tot xs) (List.pairwise_mergeSort tr tot ys) ?_
 exact(List.mergeSort_perm xs _).trans (h.trans (List.mergeSort_perm ys _).symm)
theorem aH1 {L:List aW} (hn:(L.map (·.s)).Nodup) {x y:aW} (hx:x∈L) (hy:y∈L) (e:x.s=y.s):x=y:=by
 induction L with
 |nil=>cases hx
 |cons a r ih=>
  rw[List.map_cons,List.nodup_cons] at hn
  rcases List.mem_cons.1 hx with hx1|hx1
  ·rcases List.mem_cons.1 hy with hy1|hy1
   ·rw[hx1,hy1]
   ·exact absurd (show a.s∈List.map (fun x=>x.s) r from List.mem_map.2 ⟨y,hy1,by rw[←e,hx1]⟩) hn.1
  ·rcases List.mem_cons.1 hy with hy1|hy1
   ·exact absurd (show a.s∈List.map (fun x=>x.s) r from List.mem_map.2 ⟨x,hx1,by rw[e,hy1]⟩) hn.1
   ·exact ih hn.2 hx1 hy1
theorem aAa {L M:List aW} (h:L.Perm M) (hn:(L.map (·.s)).Nodup) (s:ByteArray):jL L s=jL M s:=by
 have:L.find? (soF s)=M.find? (soF s):=by
  cases hl:L.find? (soF s) with
  |none=>
   symm
   rw[List.find?_eq_none] at hl ⊢
   exact fun x hx=>hl x (h.mem_iff.2 hx)
  |some x=>
   have hxL:=List.mem_of_find?_eq_some hl
   have hxs:=List.find?_some hl
   cases hm:M.find? (soF s) with
   |none=>exact absurd hxs (List.find?_eq_none.1 hm x (h.mem_iff.1 hxL))
   |some y=>
    have hyM:=List.mem_of_find?_eq_some hm
    have hys:=List.find?_some hm
    rw[aH1 hn hxL (h.mem_iff.2 hyM) ((kB hxs).trans (kB hys).symm)]
 unfold jL
 rw[this]
theorem zR {L M:List aW} (h:L.Perm M) (hn:(L.map (·.s)).Nodup):(fun k n s=>cC k n s L)=fun k n s=>cC k n s M:=by
 funext k n s
 unfold cC
 rw[aAa h hn,yU (show(bJ L).Perm (bJ M) from h.map _)]
theorem yP {L M:List aW} (h:L.Perm M) (hn:(L.map (·.s)).Nodup) (C:Cf):eO C L=eO C M:=by
 unfold eO
 rw[zR h hn,h.length_eq]
theorem aCu {α:Type} (L:List α) (k:Nat):L.Perm (L.drop k++L.take k):=by
 have:=(List.perm_append_comm (l₁:=L.take k) (l₂:=L.drop k))
 rwa [List.take_append_drop] at this
end Go.Proofs.YtlibhkkckgkkkaaGreatDoor.Tf
namespace Go.Proofs.YtlibhkkckgkkkaaGreatDoor.Tf
open Go.RowKit Go.Proofs.YtlibhkkckgkkkaaGreatDoor.Mem Go.Proofs.YtlibhkkckgkkkaaGreatDoor.Boo Go.Proofs.Tryz
theorem qW (C:Cf) (h:mB C) (t:Int) (b:Bool) (hb:b=decide (max C.lo C.co≤t)) (ht:t≤C.hi) (w:World) (G:Gl w):Calls prog 140 #[C.v,.int .i64 t] w (Ret (.bool b) w):=by
 have HCH:Hid (∀W,Below w.heap.size w W→Calls prog 62 #[C.v] W (Ret (.int .i64 0) W)):=Hd (fun W hW=>uC C h W (G.below hW))
 obtain⟨lo,hi,co,a,bb,x⟩:=C
 have HLO:=Hd (fun W=>aBy lo hi co a bb (bl (aM x)) W)
 unfold Cf.v at *
 dsimp only at *
 generalize bl (aM x)=s at *
 clear h G
 cases b with
 |true=>
  have z1:max lo co≤t:=of_decide_eq_true hb.symm
  generalize max lo co=q at *
  clear hb
  go_enter func140,ntmps140
  go_wp2_with (first
   |(go_at_call 62;go_must (refine rC w (HCH.out _ blw) ?_;intro W1 hb HB_W1;obtain⟨⟨kcq1_0_0,kcq1_0_1,kcq1_0_2,kcq1_0_3,kcq1_0_4,kcq1_0_5⟩,klq1_0,kfq1_0⟩:=kb6 hb (w.heap.size) (.int .i64 lo) (.int .i64 hi) (.int .i64 co) (.int .i64 a) (.int .i64 bb) (.string s);clear hb))
   |(go_at_call 38;go_must (refine rC w (HLO.out _) ?_;intro W2 hb HB_W2;obtain⟨⟨kcq2_0_0,kcq2_0_1,kcq2_0_2,kcq2_0_3,kcq2_0_4,kcq2_0_5⟩,klq2_0,kfq2_0⟩:=kb6 hb (w.heap.size) (.int .i64 lo) (.int .i64 hi) (.int .i64 co) (.int .i64 a) (.int .i64 bb) (.string s);clear hb)))
  go_ret
  exact⟨rfl,blw⟩
 |false=>
  have z1:¬max lo co≤t:=of_decide_eq_false hb.symm
  generalize max lo co=q at *
  clear hb
  go_enter func140,ntmps140
  go_wp2_with (first
   |(go_at_call 62;go_must (refine rC w (HCH.out _ blw) ?_;intro W1 hb HB_W1;obtain⟨⟨kcq3_0_0,kcq3_0_1,kcq3_0_2,kcq3_0_3,kcq3_0_4,kcq3_0_5⟩,klq3_0,kfq3_0⟩:=kb6 hb (w.heap.size) (.int .i64 lo) (.int .i64 hi) (.int .i64 co) (.int .i64 a) (.int .i64 bb) (.string s);clear hb))
   |(go_at_call 38;go_must (refine rC w (HLO.out _) ?_;intro W2 hb HB_W2;obtain⟨⟨kcq4_0_0,kcq4_0_1,kcq4_0_2,kcq4_0_3,kcq4_0_4,kcq4_0_5⟩,klq4_0,kfq4_0⟩:=kb6 hb (w.heap.size) (.int .i64 lo) (.int .i64 hi) (.int .i64 co) (.int .i64 a) (.int .i64 bb) (.string s);clear hb)))
  go_ret
  exact⟨rfl,blw⟩
theorem wH (w:World):Calls prog 141 #[.agg #[.int .i64 0,.int .i64 0,.slice none 0 0,.int .i64 0]] w (Ret (.bool true) w):=by
 go_enter func141,ntmps141
 go_wp2_with fail
 go_ret
 exact⟨rfl,blw⟩
theorem zC (C:Cf) (w:World):Calls prog 74 #[C.v,.agg #[.int .i64 0,.int .i64 0,.slice none 0 0,.int .i64 0]] w (Ret (.int .i64 0) w):=by
 obtain⟨lo,hi,co,a,b,x⟩:=C
 unfold Cf.v
 dsimp only
 generalize bl (aM x)=s
 go_enter func74,ntmps74
 go_wp2_with fail
 go_ret
 exact⟨rfl,blw⟩
theorem yR (t:Int) (w:World):Calls prog 143 #[.slice none 0 0,.int .i64 t] w (Ret (.bool false) w):=by
 go_enter func143,ntmps143
 go_wp2_with fail
 go_quiet (fail)
 go_wp2_with fail
 go_ret
 exact⟨rfl,blw⟩
theorem aF0 (C:Cf) (h:mB C) (t:Int) (h1:1≤t) (h2:t≤C.hi) (w:World) (G:Gl w):Calls prog 142 #[C.v,.agg #[.int .i64 0,.int .i64 0,.slice none 0 0,.int .i64 0],.int .i64 t] w (Ret (.bool false) w):=by
 have HWI:Hid (∀W,Below w.heap.size w W→Calls prog 140 #[C.v,.int .i64 0] W (Ret (.bool false) W)):=Hd (fun W hW=>qW C h 0 false (by symm;rw[decide_eq_false_iff_not];have:=h.lo;omega) (by have:=h.lo;have:=h.hi;omega) W (G.below hW))
 have htop:=h.top
 obtain⟨lo,hi,co,a,b,x⟩:=C
 unfold Cf.v at *
 dsimp only at *
 have hw1:wrap64 t=t:=Mem.w64 (by omega) (by omega)
 have hw2:wrap64 (-t)=-t:=Mem.w64 (by omega) (by omega)
 have hmx2:max t (-t)=t:=by omega
 have hz:(t==0)=false:=bN (by omega)
 generalize bl (aM x)=s at *
 clear h G htop h2
 by_cases hb:t≤b
 ·go_enter func142,ntmps142
  go_wp2_with (first|(go_at_call 140;go_must (refine rB w (HWI.out _ blw) ?_;intro W1 HB_W1)))
  go_ret
  exact⟨rfl,blw⟩
 ·go_enter func142,ntmps142
  go_wp2_with (first|(go_at_call 140;go_must (refine rB w (HWI.out _ blw) ?_;intro W1 HB_W1)))
  go_ret
  exact⟨rfl,blw⟩
theorem aP0:(prog.info? 3).map (fun i=>(i.zero,i.size,i.bytes))=some (some (.int .i64 0),1,8):=by kernel_rfl
theorem aE5 (C:Cf) (h:mB C) (t:Int) (h1:max C.lo C.co≤t) (h2:t≤C.hi) (w:World) (G:Gl w):Calls prog 72 #[C.v,.agg #[.int .i64 0,.int .i64 0,.slice none 0 0,.int .i64 0],.int .i64 t,.int .i64 0] w fun e w'=>∃A c,e=.returned (.tuple #[.agg #[.int .i64 t,.int .i64 0,.slice A 1 c,.int .i64 0],.bool true])∧Below w.heap.size w w':=by
 obtain⟨i0,hi0,iz,isz,iby⟩:=info_parts aP0
 have HWI:Hid (∀W,Below w.heap.size w W→Calls prog 140 #[C.v,.int .i64 t] W (Ret (.bool true) W)):=Hd (fun W hW=>qW C h t true (decide_eq_true h1).symm h2 W (G.below hW))
 have HST:Hid (∀W,Below w.heap.size w W→Calls prog 142 #[C.v,.agg #[.int .i64 0,.int .i64 0,.slice none 0 0,.int .i64 0],.int .i64 t] W (Ret (.bool false) W)):=Hd (fun W hW=>aF0 C h t (by have:=h.lo;omega) h2 W (G.below hW))
 have HRE:Hid (∀W,Calls prog 74 #[C.v,.agg #[.int .i64 0,.int .i64 0,.slice none 0 0,.int .i64 0]] W (Ret (.int .i64 0) W)):=Hd (fun W=>zC C W)
 have HRI:=Hd wH
 have HSW:=Hd (yR t)
 obtain⟨lo,hi,co,a,b,x⟩:=C
 unfold Cf.v at *
 dsimp only at *
 generalize bl (aM x)=s at *
 clear h G h1 h2
 go_enter func72,ntmps72
 go_wp2_with (first
  |(go_at_call 140;go_must (refine rC w (HWI.out _ blw) ?_;intro W1 hb HB_W1;obtain⟨⟨kcq7_0_0,kcq7_0_1,kcq7_0_2,kcq7_0_3,kcq7_0_4,kcq7_0_5⟩,klq7_0,kfq7_0⟩:=kb6 hb (w.heap.size) (.int .i64 lo) (.int .i64 hi) (.int .i64 co) (.int .i64 a) (.int .i64 b) (.string s);obtain⟨⟨kcq7_1_0,kcq7_1_1,kcq7_1_2,kcq7_1_3⟩,klq7_1,kfq7_1⟩:=kb4 hb (w.heap.size+1) (.int .i64 0) (.int .i64 0) (.slice none 0 0) (.int .i64 0);obtain⟨⟨kcq7_2_0,kcq7_2_1,kcq7_2_2,kcq7_2_3⟩,klq7_2,kfq7_2⟩:=kb4 hb (w.heap.size+2) (.int .i64 0) (.int .i64 0) (.slice none 0 0) (.int .i64 0);clear hb))
  |(go_at_call 141;go_must (refine rC w (HRI.out _) ?_;intro W2 hb HB_W2;obtain⟨⟨kcq8_0_0,kcq8_0_1,kcq8_0_2,kcq8_0_3,kcq8_0_4,kcq8_0_5⟩,klq8_0,kfq8_0⟩:=kb6 hb (w.heap.size) (.int .i64 lo) (.int .i64 hi) (.int .i64 co) (.int .i64 a) (.int .i64 b) (.string s);obtain⟨⟨kcq8_1_0,kcq8_1_1,kcq8_1_2,kcq8_1_3⟩,klq8_1,kfq8_1⟩:=kb4 hb (w.heap.size+1) (.int .i64 0) (.int .i64 0) (.slice none 0 0) (.int .i64 0);obtain⟨⟨kcq8_2_0,kcq8_2_1,kcq8_2_2,kcq8_2_3⟩,klq8_2,kfq8_2⟩:=kb4 hb (w.heap.size+2) (.int .i64 0) (.int .i64 0) (.slice none 0 0) (.int .i64 0);clear hb))
  |(go_at_call 74;go_must (refine rC w (HRE.out _) ?_;intro W3 hb HB_W3;obtain⟨⟨kcq9_0_0,kcq9_0_1,kcq9_0_2,kcq9_0_3,kcq9_0_4,kcq9_0_5⟩,klq9_0,kfq9_0⟩:=kb6 hb (w.heap.size) (.int .i64 lo) (.int .i64 hi) (.int .i64 co) (.int .i64 a) (.int .i64 b) (.string s);obtain⟨⟨kcq9_1_0,kcq9_1_1,kcq9_1_2,kcq9_1_3⟩,klq9_1,kfq9_1⟩:=kb4 hb (w.heap.size+1) (.int .i64 0) (.int .i64 0) (.slice none 0 0) (.int .i64 0);obtain⟨⟨kcq9_2_0,kcq9_2_1,kcq9_2_2,kcq9_2_3⟩,klq9_2,kfq9_2⟩:=kb4 hb (w.heap.size+2) (.int .i64 0) (.int .i64 0) (.slice none 0 0) (.int .i64 0);clear hb))
  |(go_at_call 142;go_must (refine rC w (HST.out _ blw) ?_;intro W4 hb HB_W4;obtain⟨⟨kcq10_0_0,kcq10_0_1,kcq10_0_2,kcq10_0_3⟩,klq10_0,kfq10_0⟩:=kb4 hb (w.heap.size+1) (.int .i64 0) (.int .i64 0) (.slice none 0 0) (.int .i64 0);obtain⟨⟨kcq10_1_0,kcq10_1_1,kcq10_1_2,kcq10_1_3⟩,klq10_1,kfq10_1⟩:=kb4 hb (w.heap.size+2) (.int .i64 0) (.int .i64 0) (.slice none 0 0) (.int .i64 0);clear hb))
  |(go_at_call 143;go_must (refine rC w (HSW.out _) ?_;intro W5 hb HB_W5;obtain⟨⟨kcq11_0_0,kcq11_0_1,kcq11_0_2,kcq11_0_3⟩,klq11_0,kfq11_0⟩:=kb4 hb (w.heap.size+1) (.int .i64 0) (.int .i64 0) (.slice none 0 0) (.int .i64 0);obtain⟨⟨kcq11_1_0,kcq11_1_1,kcq11_1_2,kcq11_1_3⟩,klq11_1,kfq11_1⟩:=kb4 hb (w.heap.size+2) (.int .i64 0) (.int .i64 0) (.slice none 0 0) (.int .i64 0);obtain⟨⟨kcq11_2_0,kcq11_2_1,kcq11_2_2,kcq11_2_3⟩,klq11_2,kfq11_2⟩:=kb4 hb (W4.heap.size) (.int .i64 t) (.int .i64 0) (.slice none 0 0) (.int .i64 0);clear hb))
  )
 generalize (Question.appendCap 1 0 3).cut (W5.tape W5.drawn (Question.appendCap 1 0 3))=q
 exact bodyPost_ret (v:=.tuple #[.agg #[.int .i64 t,.int .i64 0,.slice (some ⟨W5.heap.size+1,0,none⟩) 1 q,.int .i64 0],.bool true]) (by simp[results,results72,go_sem, *]) rfl ⟨_,_,rfl,aI (aB (aB (aF (aF (aF (aF (aF HB_W5.out HB_W4.out.size _) (by dsimp only;omega) _) (by dsimp only;omega) _) (by dsimp only;omega) _) (by dsimp only;omega) _) _) _)⟩
end Go.Proofs.YtlibhkkckgkkkaaGreatDoor.Tf
