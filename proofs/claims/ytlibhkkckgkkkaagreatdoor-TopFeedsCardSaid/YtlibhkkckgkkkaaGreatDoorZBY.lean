/- TopFeeds returns true at every input, and each argument reads behind the call as it read before: the row, and its card, tied to the program's text. No condition besides what the row lists. -/
import Derived.Test.YtlibhkkckgkkkaaGreatDoorZAA
import Derived.Test.YtlibhkkckgkkkaaGreatDoorZAB
import Derived.Test.YtlibhkkckgkkkaaGreatDoorZAC
import Derived.Test.YtlibhkkckgkkkaaGreatDoorZAD
import Derived.Test.YtlibhkkckgkkkaaGreatDoorZAO
import Derived.Test.YtlibhkkckgkkkaaGreatDoorZBV
import Derived.Test.YtlibhkkckgkkkaaGreatDoorZBX
import Derived.HandedShaped
import Derived.LaidMore
import Derived.Lay
import Derived.Stop.LaidErr
import Derived.Test.YtlibhkkckgkkkaaGreatDoorTie
set_option maxRecDepth 100000
namespace Go.Proofs.YtlibhkkckgkkkaaGreatDoor.Top
theorem jJ {H:Type} {enc:TypeId×Value→H} {a:Assume} {C:Checked} {os:Os} {f:FuncId} {fn:Func} {s:ChangeSpec} {conds:List PathCond} {apart fresh handsOn again:Bool} {X:World→Array Value→Prop}
 (hX:∀(w w':World) (args:Array Value),w.heap=w'.heap→X w args→X w' args)
 (own:ownKnob C.prog.godebug=none) (started:os.Started) (noInit:C.prog.inits.idxOf? f=none) (hfn:C.prog.funcs[f]?=some fn)
 (witness:∃(w:World) (tape:Tape) (i:Input),w.os=os∧(w.forCall tape i).Shaped C.prog∧i.vars=[]∧Input.okWide C.prog (w.forCall tape i) .any w.heap.size f i∧
   ((s.pre enc C.prog fn conds apart (w.forCall tape i).memory i.args∧X (w.forCall tape i).memory i.args)∧sizedMet enc C.prog fn (OpenSpec.ofChange s) apart (w.forCall tape i).memory i.args)∧a.holds C.prog (lone (Frame.enter C.prog f i.args .normal) [] (w.forCall tape i)))
 (contract:∀(W:World) (base:Nat) (args:Array Value) (ds gs:List (DataW H)) (before:List MemPlace),
   (∀(j:Nat) t v,fn.params[j]?=some t→args[j]?=some v→Value.okWide C.prog W .any base t v)→
   DataW.Whole enc C.prog fn.params.toList s.vars apart W args.toList ds gs before→W.ShapedOpen C.prog→X W args→
   Calls C.prog f args W fun e W'=>∃v,e=.returned v∧s.post enc C.prog fn apart fresh handsOn again W args v W'):
 ReturnsInHanded a C os f .any (fun w args=>(s.pre enc C.prog fn conds apart w args∧X w args)∧sizedMet enc C.prog fn (OpenSpec.ofChange s) apart w args) (s.post enc C.prog fn apart fresh handsOn again):=by
 refine returnsInHanded_of_calls own started noInit witness ?_
 intro w tape i _ hsh _ hok hpre _
 obtain⟨_,_,_,fn',hfn',_,_,_,_,hval⟩:=hok
 have e:fn'=fn:=Option.some.inj (hfn'.symm.trans hfn)
 subst e
 obtain⟨⟨⟨ds,gs,before,hw,_⟩,hx⟩,_⟩:=hpre
 have hw':=DataW.Whole.of_heap (w':=w.forCall tape i) (by rfl) hw
 refine(contract (w.forCall tape i) w.heap.size i.args ds gs before hval hw' hsh (hX _ _ _ (by rfl) hx)).mono fun e W' ⟨v,he,hp⟩=>?_
 subst he
 exact ChangeSpec.post_blind hp
end Go.Proofs.YtlibhkkckgkkkaaGreatDoor.Top
namespace Go.Proofs.YtlibhkkckgkkkaaGreatDoor.Top
open Go.ChangeShapes Go.WideShapes Go.ChangeAt Go.RowKit Go.Proofs.YtlibhkkckgkkkaaGreatDoor.Mem
theorem own:ownKnob Tryz.prog.godebug=none:=by kernel_rfl
theorem aN4:Tryz.prog.cellsOf 22=6:=by kernel_rfl
theorem aCc:Tryz.prog.cellsOf 64=2:=by kernel_rfl
theorem aBa:Tryz.prog.cellsOf 3=1:=by kernel_rfl
theorem aMo:Rows.topFeedsRow.laid=[("math/bits.deBruijn32tab",Rows.laid_math_bits_deBruijn32tab),("math/bits.deBruijn64tab",Rows.laid_math_bits_deBruijn64tab),("internal/strconv.uint64pow10",Lib.tabData .u64 Lib.pow10Tab),("unicode/utf8.acceptRanges",Rows.laid_unicode_utf8_acceptRanges),("strconv.ErrRange",Rows.laid_strconv_ErrRange),("strconv.ErrSyntax",Rows.laid_strconv_ErrSyntax),("unicode/utf8.first",Rows.laid_unicode_utf8_first)]:=by kernel_rfl
theorem star: "*" ++ "errors.errorString" = "*errors.errorString" :=by decide
theorem aGn (u:TypeId) (h:Tryz.prog.typeName? 3 u=some "*errors.errorString"):u=423:=
 typeName_ptr_named (nm:= "errors.errorString") (by rw[star];kernel_rfl) (by kernel_rfl) (by decide) u (by rw[star];exact h)
theorem aRk {W:World} (hs:W.ShapedOpen Tryz.prog) (h0:laidMet Tryz.prog Rows.topFeedsRow.laid W):Tf.Gl W:=by
 rw[aMo] at h0
 have h2:=h0.tail.tail
 have h4:=h2.tail.tail
 have h5:=h4.tail
 obtain⟨a4,s4,e4,_⟩:=laid_sentinel (te:=425) (ts:=9) (tp:=423) (ti:=121) (g:=4) h4 (by kernel_rfl) (by kernel_rfl) Tryz.underlying121 aGn Tryz.underlying423 Tryz.underlying425 rfl rfl Tryz.underlying9 (by kernel_rfl) (by kernel_rfl)
 obtain⟨a5,s5,e5,_⟩:=laid_sentinel (te:=425) (ts:=9) (tp:=423) (ti:=121) (g:=3) h5 (by kernel_rfl) (by kernel_rfl) Tryz.underlying121 aGn Tryz.underlying423 Tryz.underlying425 rfl rfl Tryz.underlying9 (by kernel_rfl) (by kernel_rfl)
 have hgs:Tryz.prog.globals.size=8:=by kernel_rfl
 have hm:∃m,W.cell? ⟨0,0,none⟩=some (.int .i64 m):=cell_of_shapedOpen_int (t:=3) (zero:=#[.int .i64 0]) hs (by rw[hgs];decide) (by kernel_rfl) rfl (by kernel_rfl) (by kernel_rfl) Tryz.underlying3
 exact⟨hm,Lib.tabIs_of_head (g:=5) (t:=426) (by kernel_rfl) (by kernel_rfl) Tryz.underlying426 Tryz.underlying405 (by kernel_rfl) (by kernel_rfl) h2,⟨_,_,e5⟩,⟨_,_,e4⟩⟩
theorem aPp (os:Os) (started:os.Started) (H:Type) (enc:TypeId×Value→H):
 ReturnsInHanded {} Tryz.checked os 3 .any (fun w args=>(Rows.topFeedsSpec.pre enc Tryz.prog Tryz.f3 Rows.topFeedsRow.domain false w args∧laidMetH Tryz.prog Rows.topFeedsRow.laid w)∧sizedMet enc Tryz.prog Tryz.f3 (OpenSpec.ofChange Rows.topFeedsSpec) false w args)
  (Rows.topFeedsSpec.post enc Tryz.prog Tryz.f3 false true false false):=by
 refine jJ (C:=Tryz.checked) (X:=fun w _=>laidMetH Tryz.prog Rows.topFeedsRow.laid w) (fun _ _ _ hh h=>h.of_heap hh) own started (by kernel_rfl) Tryz.func3
  (ChangeSpec.witness_shaped (enc:=enc) (C:=Tryz.checked) (os:=os) (X:=fun w _=>laidMetH Tryz.prog Rows.topFeedsRow.laid w) false (World.laidAll Tryz.prog os Rows.topFeedsRow.laid) #[.agg #[.int .i64 0,.int .i64 0,.int .i64 0,.int .i64 0,.int .i64 0,.int .i64 0],.slice none 0 0,.slice none 0 0,.int .i64 0] 8 (World.laidAll_os _ _ _)
    (World.shaped_of_ZipB (by kernel_rfl) (by kernel_rfl)) (by kernel_rfl) (by kernel_rfl) (by kernel_rfl)
    (by rw[MakeChecks.laidMetH_plain _ _ _ (by kernel_rfl)];exact laidMet_laidAll _ (by kernel_rfl) (by kernel_rfl))) ?_
 intro W base args ds gs before hval0 hW hsh hL
 rw[MakeChecks.laidMetH_plain _ _ _ (by kernel_rfl)] at hL
 have hG:=aRk hsh hL
 have hval:∀(j:Nat) t v,Tryz.f3.params[j]?=some t→args[j]?=some v→Value.okWide Tryz.prog W .any base t v:=hval0
 have hW':=hW
 obtain⟨p,q,hA0,hV,rfl,hfz,hnd⟩:=hW
 have hA:DataW.TrodAll enc Tryz.prog W 0 (fun _=>true) true Tryz.f3.params.toList args.toList ds p:=hA0
 rw[Tryz.params3] at hA hval
 obtain⟨v0,vs0,d0,ds0,p0,q0,hargs,rfl,rfl,h0,r0⟩:=trodAll_cons hA
 obtain⟨v1,vs1,d1,ds1,p1,q1,rfl,rfl,rfl,h1,r1⟩:=trodAll_cons r0
 obtain⟨v2,vs2,d2,ds2,p2,q2,rfl,rfl,rfl,h2,r2⟩:=trodAll_cons r1
 obtain⟨v3,vs3,d3,ds3,p3,q3,rfl,rfl,rfl,h3,r3⟩:=trodAll_cons r2
 obtain⟨rfl,rfl,rfl⟩:=trodAll_nil r3
 obtain rfl:args=#[v0,v1,v2,v3]:=by cases args;simp_all
 obtain⟨rfl,rfl⟩:=trodVars_none hV
 have k0:=h0
 have k1:=h1
 have k2:=h2
 have k3:=h3
 have ho0:=hval 0 22 v0 rfl rfl
 unfold Value.okWide at ho0
 rw[Tryz.underlying22] at ho0
 obtain⟨cs,rfl,hcz,_⟩:=ho0
 obtain⟨fl,hf⟩:=h0
 obtain⟨hl,hg⟩:=aI5 Tryz.underlying22 aN4 Tryz.underlying3 aBa hf
 obtain⟨l⟩:=cs
 obtain⟨u0,u1,u2,u3,u4,u5,rfl⟩:∃u0 u1 u2 u3 u4 u5,l=[u0,u1,u2,u3,u4,u5]:=by
  match l,hl with
  |[a,b,c,d,e,f],_=>exact⟨a,b,c,d,e,f,rfl⟩
 obtain⟨a0,rfl,w0⟩:=hg 0 u0 rfl
 obtain⟨a1,rfl,w1⟩:=hg 1 u1 rfl
 obtain⟨a2,rfl,w2⟩:=hg 2 u2 rfl
 obtain⟨a3,rfl,w3⟩:=hg 3 u3 rfl
 obtain⟨a4,rfl,w4⟩:=hg 4 u4 rfl
 obtain⟨a5,rfl,w5⟩:=hg 5 u5 rfl
 obtain⟨EA,ec,es,rfl,heat,ges⟩:=aBs Tf.dZ Boo.I64 Tryz.underlying23 aBa (fun n cs y hy=>by
  obtain⟨a,rfl,_,wa⟩:=DataW.trod_int Tryz.underlying3 hy
  exact⟨a,rfl,wfB wa⟩) (hval 1 23 v1 rfl rfl) h1
 obtain⟨RA,rc,rs,rfl,hrat,grs⟩:=aBs Tf.dA2 (fun x=>Boo.I64 x.1∧Boo.I64 x.2) Tryz.underlying24 aCc (fun n cs y hy=>by
  obtain⟨hl,hg⟩:=aI5 Tryz.underlying64 aCc Tryz.underlying3 aBa hy
  match cs,hl with
  |[u,v],_=>
   obtain⟨a,rfl,wa⟩:=hg 0 u rfl
   obtain⟨b,rfl,wb⟩:=hg 1 v rfl
   exact⟨⟨a,b⟩,rfl,wfB wa,wfB wb⟩) (hval 2 24 v2 rfl rfl) h2
 obtain⟨at_,rfl,rfl,rfl,wt⟩:=open_int Tryz.underlying3 (hval 3 3 v3 rfl rfl) h3
 refine(Tf.aMn a0 a1 a2 a3 a4 a5 ⟨wfB w0,wfB w1,wfB w2,wfB w3,wfB w4,wfB w5⟩ EA ec es.length es rfl RA rc rs.length rs rfl at_ (wfB wt) W hG heat ges hrat grs (fun W G=>Tf.aFf W G)).mono fun e W' ⟨he,bel⟩=>?_
 subst he
 exact⟨_,rfl,_,_,_,[],_,[],hW',trodAll_mk1 (shut_bool Tryz.underlying4 _),(trodAll_cons_mk (Below.trod oF (by kernel_rfl) (of_decide_eq_true (by kernel_rfl)) k0 bel (fun x hx=>by simpa using hW'.lt x (by simp_all))) (trodAll_cons_mk (Below.trod oF (by kernel_rfl) (of_decide_eq_true (by kernel_rfl)) k1 bel (fun x hx=>by simpa using hW'.lt x (by simp_all))) (trodAll_cons_mk (Below.trod oF (by kernel_rfl) (of_decide_eq_true (by kernel_rfl)) k2 bel (fun x hx=>by simpa using hW'.lt x (by simp_all))) (trodAll_cons_mk (Below.trod oF (by kernel_rfl) (of_decide_eq_true (by kernel_rfl)) k3 bel (fun x hx=>by simpa using hW'.lt x (by simp_all))) trodAll_mk0)))),rfl,bel.frame _,fun h=>by cases h⟩
theorem aQv:joinedFacts Tryz.prog 3 Tryz.f3 Rows.topFeedsSpec Rows.topFeedsRow=true:=by
 unfold joinedFacts
 rw[f1,oF,f3,f4,f5,f7,f9,f10,f11,f12,f13]
 kernel_rfl
theorem said:Rows.TopFeedsSaid:=
 OpenClaim.holds_of_wide 3 Tryz.f3 rfl rfl rfl rfl rfl rfl rfl ⟨rfl,rfl,rfl,rfl,rfl⟩ rfl rfl rfl rfl rfl fn3 Tryz.func3 aQv
  (of_decide_eq_true (by kernel_rfl)) (by unfold Func.isWrapper;first|(rw[if_pos (by decide +kernel)];kernel_rfl)|(rw[if_neg (by decide +kernel)];exact⟨rfl,rfl⟩))
  (fun os started H enc _=>aPp os started H enc)
end Go.Proofs.YtlibhkkckgkkkaaGreatDoor.Top
namespace Go.Proofs.YtlibhkkckgkkkaaGreatDoor
open Go
theorem topFeeds_holds:Rows.TopFeedsCardSaid:=
 Claim7.holds_tied_plain_at .later [] [.data,.data,.data,.data,.sentinel,.sentinel,.pinned] true (true, "b5d8660ecb28bb8221815a97bce24200d74f737e6100c0eaa54f742e95e4a045") true
  Top.said (fun _ h=>by cases h) Top.aQx (fun _ h=>by cases h) topFeeds_row_tie rfl ⟨rfl,rfl⟩ Top.aPc rfl
  (fun f fn hf hfn=>by
    obtain rfl:f=3:=Option.some.inj (Top.fn3.symm.trans hf) |>.symm
    obtain rfl:fn=Tryz.f3:=(Option.some.inj (Tryz.func3.symm.trans hfn)).symm
    exact⟨Top.aRb,fun j t ht=>by
     rw[Tryz.params3] at ht
     have hm:t∈[22,23,24,3]:=by simpa using Array.mem_of_getElem? ht
     exact(show Tryz.prog.wantsStandIn t=false by simpa using List.all_eq_true.1 Top.aQ4 t hm)⟩)
  Top.goes
end Go.Proofs.YtlibhkkckgkkkaaGreatDoor
