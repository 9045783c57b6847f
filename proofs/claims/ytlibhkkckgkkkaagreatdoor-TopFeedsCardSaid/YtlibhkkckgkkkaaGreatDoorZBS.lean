/- Part of the proof of TopFeeds: FedB. -/
import Derived.Test.YtlibhkkckgkkkaaGreatDoorZAU
import Derived.Test.YtlibhkkckgkkkaaGreatDoorZBR
import Derived.Laws.CopyOwn
set_option maxHeartbeats 4000000
set_option maxRecDepth 100000
namespace Go.Proofs.YtlibhkkckgkkkaaGreatDoor.Tf
open Go.RowKit Go.Proofs.YtlibhkkckgkkkaaGreatDoor.Mem Go.Proofs.YtlibhkkckgkkkaaGreatDoor.Boo Go.Proofs.Tryz
theorem aCo {P:Program} (w:World) {ops:Array Oper} {rest:List Oper} {o:Oper} {a:Act} {Q:Exit→Act→World→Prop} (hgd:o.guard=none) (d s:Operand) (t t':TypeId)
 (ho:o.op=.call {callee:=.builtin .copy,args:=#[d,s],argTypes:=#[t,t']}) (v u:Value) (hd:a.eval d=v) (hs:a.eval s=u) {v':Value} {w':World}
 (hr:∀ty,(Builtin.copy_ #[t,t'] ty #[v,u]).run P w=.ok v' w') (h:wpList P ops Q rest (a.put o.dst v') w'):wpList P ops Q (o::rest) a w:=
 wpList_plain hgd fun _ hK=>by
  unfold Oper.wp execOp
  simp only[ho,resolve,invoke,builtin,Sem.run_bind,Sem.run_pure,Result.andThen_ok,List.map_toArray,List.map_cons,List.map_nil,hd,hs,hr]
  exact hK _ _ h
theorem box5 {W:World} {q:Nat} {t:TypeId} {a b c d e:Value} (h:W.heap[q]?=some (.cells #[a,b,c,d,e] t (0,0))) (u0 u1 u2 u3 u4:Value):
 (((((W.setCell ⟨q,0,none⟩ u0).setCell ⟨q,1,none⟩ u1).setCell ⟨q,2,none⟩ u2).setCell ⟨q,3,none⟩ u3).setCell ⟨q,4,none⟩ u4).heap[q]?=some (.cells #[u0,u1,u2,u3,u4] t (0,0)):=
 aE _ q 4 _ t u4 (aE _ q 3 _ t u3 (aE _ q 2 _ t u2 (aE _ q 1 _ t u1 (aE W q 0 _ t u0 h))))
theorem aKc {w W:World} {q:Nat} (h:Below w.heap.size w W) (hq:w.heap.size≤q) (u0 u1 u2 u3 u4:Value):Below w.heap.size w (((((W.setCell ⟨q,0,none⟩ u0).setCell ⟨q,1,none⟩ u1).setCell ⟨q,2,none⟩ u2).setCell ⟨q,3,none⟩ u3).setCell ⟨q,4,none⟩ u4):=
 aF (aF (aF (aF (aF h (p:=⟨q,0,none⟩) hq _) (p:=⟨q,1,none⟩) hq _) (p:=⟨q,2,none⟩) hq _) (p:=⟨q,3,none⟩) hq _) (p:=⟨q,4,none⟩) hq _
theorem aHj {W:World} {q b:Nat} (hn:b≠q) (u0 u1 u2 u3 u4:Value):(((((W.setCell ⟨q,0,none⟩ u0).setCell ⟨q,1,none⟩ u1).setCell ⟨q,2,none⟩ u2).setCell ⟨q,3,none⟩ u3).setCell ⟨q,4,none⟩ u4).heap[b]?=W.heap[b]?:=by
 rw[aG _ ⟨q,4,none⟩ u4 b hn,aG _ ⟨q,3,none⟩ u3 b hn,aG _ ⟨q,2,none⟩ u2 b hn,aG _ ⟨q,1,none⟩ u1 b hn,aG _ ⟨q,0,none⟩ u0 b hn]
theorem eK {W:World} {q b i:Nat} {x:Value} (h:W.cell? ⟨b,i,none⟩=some x) (hn:b≠q) (u0 u1 u2 u3 u4:Value):(((((W.setCell ⟨q,0,none⟩ u0).setCell ⟨q,1,none⟩ u1).setCell ⟨q,2,none⟩ u2).setCell ⟨q,3,none⟩ u3).setCell ⟨q,4,none⟩ u4).cell? ⟨b,i,none⟩=some x:=by
 simp only[World.cell?] at h ⊢
 rw[aHj hn]
 exact h
abbrev z151:Array Value:=#[.string ⟨#[]⟩,.int .i64 0,.string ⟨#[]⟩,.string ⟨#[]⟩,.int .i64 0]
theorem aRi:(prog.info? 9).map (·.size)=some 1:=by kernel_rfl
theorem tV (T s q k l p:ByteArray) (hT:T.size≤100) (hsp:Lib.splitB gG 0 (Lib.countB T gG) T=[s,q,k,l,p]) (hct:Lib.countB T gG=4) (hs:s.size≤100) (hq:q.size≤100) (hk:k.size≤100) (hl:l.size≤100) (hp:p.size≤100)
 (h1:aZ s=true) (h2:aZ k=true) (h3:aZ l=true) (n:Int) (hn:bU q 1000000000000=n) (n1:1≤n) (n2:n≤1000000000000) (v:Int) (hv:eF p=(v,0)) (v1:1≤v) (v2:v≤1000000000000) (hg:p≠⟨#[103,111,110,101]⟩) (w:World) (G:Gl w):
 Calls prog 64 #[.string T] w (Ret (.tuple #[.agg #[.string s,.int .i64 n,.string k,.string l,.int .i64 v],.int .i64 0,.int .i64 0]) w):=by
 obtain⟨m,hm⟩:=G.ml
 have HSP:Hid (∀W,Below w.heap.size w W→Calls prog 125 #[.string T,.string gG] W fun e w'=>e=.returned (.slice (some ⟨W.heap.size,0,none⟩) 5 5)∧w'=W.alloc (.cells #[.string s,.string q,.string k,.string l,.string p] 9)):=Hd (fun W hW=>by
  have:=Tryz.strings_Split T gG m W (by omega) (aC hW hm) (by decide)
  rw[hsp,hct] at this
  exact this)
 have HCO:=Hd (fun W hW=>by
  have:=mN q (by omega) 1000000000000 W (G.below hW)
  rwa [hn] at this)
 have HPR:=Hd (fun W hW=>aDm p (by omega) v hv (by omega) hg W (G.below hW))
 have HWR:=Hd (fun W=>aFi s k l n v hs hk hl h1 h2 h3 n1 n2 v1 v2 W)
 have ht:¬(100:Int)<(T.size:Int):=by omega
 clear hT hsp hct hs hq hk hl hp h1 h2 h3 hn n1 n2 hv v1 v2 hg G hm
 go_enter func64,ntmps64
 go_wp2_with fail
 refine(HSP.out _ blw).mono ?_
 rintro e W1 ⟨rfl,rfl⟩
 obtain⟨W3,hcp,hr3,hr0,hb3⟩:∃W3,(∀ty,(Builtin.copy_ #[61,61] ty #[.slice (some ⟨w.heap.size+1+1,0,none⟩) 5 5,.slice (some ⟨w.heap.size+1,0,none⟩) 5 5]).run prog (((w.alloc (.cells #[.string ⟨#[]⟩,.int .i64 0,.string ⟨#[]⟩,.string ⟨#[]⟩,.int .i64 0] 151)).alloc (.cells #[.string s,.string q,.string k,.string l,.string p] 9)).alloc (.cells #[.string ⟨#[]⟩,.string ⟨#[]⟩,.string ⟨#[]⟩,.string ⟨#[]⟩,.string ⟨#[]⟩] 234))=.ok (.int .i64 5) W3)∧W3.heap[w.heap.size+1+1]?=some (.cells #[.string s,.string q,.string k,.string l,.string p] 234 (0,0))∧W3.heap[w.heap.size]?=some (.cells #[.string ⟨#[]⟩,.int .i64 0,.string ⟨#[]⟩,.string ⟨#[]⟩,.int .i64 0] 151 (0,0))∧Below w.heap.size w W3:=by
  obtain⟨X,hX⟩:∃X,X=((w.alloc (.cells #[.string ⟨#[]⟩,.int .i64 0,.string ⟨#[]⟩,.string ⟨#[]⟩,.int .i64 0] 151)).alloc (.cells #[.string s,.string q,.string k,.string l,.string p] 9)).alloc (.cells #[.string ⟨#[]⟩,.string ⟨#[]⟩,.string ⟨#[]⟩,.string ⟨#[]⟩,.string ⟨#[]⟩] 234):=⟨_,rfl⟩
  rw[←hX]
  have hx2:X.heap[w.heap.size+1+1]?=some (.cells #[.string ⟨#[]⟩,.string ⟨#[]⟩,.string ⟨#[]⟩,.string ⟨#[]⟩,.string ⟨#[]⟩] 234 (0,0)):=by
   rw[hX]
   have:=heap_alloc_new ((w.alloc (.cells #[.string ⟨#[]⟩,.int .i64 0,.string ⟨#[]⟩,.string ⟨#[]⟩,.int .i64 0] 151)).alloc (.cells #[.string s,.string q,.string k,.string l,.string p] 9)) (.cells #[.string ⟨#[]⟩,.string ⟨#[]⟩,.string ⟨#[]⟩,.string ⟨#[]⟩,.string ⟨#[]⟩] 234)
   simpa using this
  have hx1:X.heap[w.heap.size+1]?=some (.cells #[.string s,.string q,.string k,.string l,.string p] 9 (0,0)):=by
   rw[hX]
   refine(Below.heap_alloc _ _ _ (by simp)).trans ?_
   have:=heap_alloc_new (w.alloc (.cells #[.string ⟨#[]⟩,.int .i64 0,.string ⟨#[]⟩,.string ⟨#[]⟩,.int .i64 0] 151)) (.cells #[.string s,.string q,.string k,.string l,.string p] 9)
   simpa using this
  have hx0:X.heap[w.heap.size]?=some (.cells #[.string ⟨#[]⟩,.int .i64 0,.string ⟨#[]⟩,.string ⟨#[]⟩,.int .i64 0] 151 (0,0)):=by
   rw[hX]
   exact(Below.heap_alloc _ _ _ (by simp;omega)).trans ((Below.heap_alloc _ _ _ (by simp)).trans (heap_alloc_new w _))
  have hbX:Below w.heap.size w X:=by rw[hX];exact aB (aB (aB bR _) _) _
  refine⟨_,fun ty=>run_copy_row prog X 61 61 ty 9 (w.heap.size+1+1) 0 5 5 ⟨w.heap.size+1,0,none⟩ 5 5 _ 234 [.string s,.string q,.string k,.string l,.string p] underlying61 aRi hx2 rfl (fun j u hj=>?_) (by simp) (by simp[Value.oneCell']),?_,?_,?_⟩
  ·rw[Addr.add_lit,Nat.zero_add]
   exact(aA hx1 j).trans (by simpa using hj)
  ·exact(setRow_heap X _ _ _ 234 (0,0) hx2).trans rfl
  ·exact(setRow_other X _ _ _ (by omega)).trans hx0
  ·exact below_setRow hbX (by omega) _
 have HR3:=Hd hr3
 have HR0:=Hd hr0
 have HB3:=Hd hb3
 have x0:=aA hr3 0
 have x1:=aA hr3 1
 have x2:=aA hr3 2
 have x3:=aA hr3 3
 have x4:=aA hr3 4
 have xl:=(gLt hr3)
 clear hr3 hr0 hb3
 go_wp2_with (first|(at_builtin;refine aCo _ rfl _ _ 61 61 rfl _ _ rfl rfl hcp ?_))
 have k1:=xl
 have n1:w.heap.size+1+1≠W3.heap.size:=by omega
 have HW3:Hid (w.heap.size<W3.heap.size):=Hd (by omega)
 go_cut [7] (fun f wx=>∃fb,f=.pointer (some ⟨fb,0,none⟩)∧w.heap.size<fb∧Hid (wx.heap[fb]?=some (.cells #[.string s,.int .i64 n,.string k,.string l,.int .i64 v] 151 (0,0)))∧Hid (wx.heap[w.heap.size]?=some (.cells z151 151 (0,0)))∧Hid (Below w.heap.size w wx))
 case first=>
  go_region_held3 (fun W'=>W'.cell? ⟨w.heap.size+1+1,0,none⟩=some (.string s)∧W'.cell? ⟨w.heap.size+1+1,1,none⟩=some (.string q)∧W'.cell? ⟨w.heap.size+1+1,2,none⟩=some (.string k)∧W'.cell? ⟨w.heap.size+1+1,3,none⟩=some (.string l)∧W'.cell? ⟨w.heap.size+1+1,4,none⟩=some (.string p)) (first|go_keep|(with_reducible exact⟨eK s0 n1 _ _ _ _ _,eK s1 n1 _ _ _ _ _,eK s2 n1 _ _ _ _ _,eK s3 n1 _ _ _ _ _,eK s4 n1 _ _ _ _ _⟩)|(with_reducible exact⟨eK s0 n2 _ _ _ _ _,eK s1 n2 _ _ _ _ _,eK s2 n2 _ _ _ _ _,eK s3 n2 _ _ _ _ _,eK s4 n2 _ _ _ _ _⟩)) (first
   |(go_at_call 126;go_must (refine rC w (HCO.out _ blw) ?_;intro W4 hb HB4;have HC4:=bst W3 hb;have t0:=aC HC4.out x0;have t1:=aC HC4.out x1;have t2:=aC HC4.out x2;have t3:=aC HC4.out x3;have t4:=aC HC4.out x4;have n2:w.heap.size+1+1≠W4.heap.size:=(by have:=HC4.out.size;omega);have k2:=HC4.out.size;have k4:w.heap.size+1+1<W4.heap.size:=(by omega);first|(have hr:W4.heap[W3.heap.size]?=some (.cells z151 151 (0,0)):=(hb.block _ (by first|(simp;done)|(simp;omega))).trans (aN _ _);have HRA:=Hd hr;clear hr hb)|clear hb))
   |(go_at_call 127;go_must (refine rC w (HPR.out _ blw) ?_;intro W5 hb HB5;have HC5:=bst W3 hb;have s0:=aC HC5.out x0;have s1:=aC HC5.out x1;have s2:=aC HC5.out x2;have s3:=aC HC5.out x3;have s4:=aC HC5.out x4;have k3:=HC5.out.size;first|(have hr:W5.heap[W3.heap.size]?=some (.cells z151 151 (0,0)):=(hb.block _ (by have:=(gLt HRA.out);first|exact this|(simp;omega))).trans HRA.out;have v0:=aA hr 0;have v1:=aA hr 1;have v2:=aA hr 2;have v3:=aA hr 3;have v4:=aA hr 4;have vf:=fZ hr;have vl:=(gLt hr);have HRX:=Hd hr;clear hr;clear hb)|(have hr:W5.heap[W4.heap.size]?=some (.cells z151 151 (0,0)):=(hb.block _ (by first|(simp;done)|(simp;omega))).trans (aN _ _);have v0:=aA hr 0;have v1:=aA hr 1;have v2:=aA hr 2;have v3:=aA hr 3;have v4:=aA hr 4;have vf:=fZ hr;have vl:=(gLt hr);have HRX:=Hd hr;clear hr;clear hb)|clear hb)))
  all_goals go_wp2_with fail
  all_goals go_meet
  all_goals have hz:W5.heap[w.heap.size]?=some (.cells z151 151 (0,0)):=(HC5.out.block _ (by omega)).trans HR0.out
  all_goals first
   |(have hR:=HRX.out;exact⟨_,rfl,by omega,Hd (box5 hR _ _ _ _ _),Hd ((aHj (by omega) _ _ _ _ _).trans hz),Hd (aKc HB5.out (by omega) _ _ _ _ _)⟩)
   |exact⟨_,rfl,by omega,Hd (aN _ _),Hd ((Below.heap_alloc _ _ _ (by omega)).trans hz),Hd (aB HB5.out _)⟩
 case rest=>
 obtain⟨fb,rfl,hfb,HRF,HRZ,HB6⟩:=hcut
 obtain⟨W6,hwc⟩:∃w,w=wc:=⟨_,rfl⟩
 subst hwc
 have ix0:∀W,(Instr.index 236 (.agg #[.bool false,.bool false,.bool false,.bool false,.bool false]) (.int .i64 0)).run prog W=.ok (.bool false) W:=fun W=>by kernel_rfl
 have ix1:∀W,(Instr.index 236 (.agg #[.bool false,.bool false,.bool false,.bool false,.bool false]) (.int .i64 1)).run prog W=.ok (.bool false) W:=fun W=>by kernel_rfl
 have ix2:∀W,(Instr.index 236 (.agg #[.bool false,.bool false,.bool false,.bool false,.bool false]) (.int .i64 2)).run prog W=.ok (.bool false) W:=fun W=>by kernel_rfl
 have ix3:∀W,(Instr.index 236 (.agg #[.bool false,.bool false,.bool false,.bool false,.bool false]) (.int .i64 3)).run prog W=.ok (.bool false) W:=fun W=>by kernel_rfl
 have ix4:∀W,(Instr.index 236 (.agg #[.bool false,.bool false,.bool false,.bool false,.bool false]) (.int .i64 4)).run prog W=.ok (.bool false) W:=fun W=>by kernel_rfl
 have f0:=aA HRF.out 0
 have f1:=aA HRF.out 1
 have f2:=aA HRF.out 2
 have f3:=aA HRF.out 3
 have f4:=aA HRF.out 4
 have fl:=(gLt HRF.out)
 clear hcp x0 x1 x2 x3 x4 xl k1 n1
 go_wp2_with (first
  |(go_at_call 128;go_must (refine(HWR.out _).mono ?_;rintro e W7 ⟨rfl,hb⟩;have HB7:=Hd (aD HB6.out hb);have hrf:=(hb.block _ (gLt HRF.out)).trans HRF.out;have hrz:=(hb.block _ (gLt HRZ.out)).trans HRZ.out;have y0:=aA hrf 0;have y1:=aA hrf 1;have y2:=aA hrf 2;have y3:=aA hrf 3;have y4:=aA hrf 4;have yl:=(gLt hrf);have z0:=aA hrz 0;have z1:=aA hrz 1;have z2:=aA hrz 2;have z3:=aA hrz 3;have z4:=aA hrz 4;have zl:=(gLt hrz);have zf:=fZ hrz;clear hb hrf hrz f0 f1 f2 f3 f4 fl)))
 go_loopw [8,9,38] (fun a b iv wr=>∃i:Nat,i≤5∧iv=.int .i64 i∧wr=W7) (fun _ _ iv _=>5-(intOf iv).toNat)
 case atStart=>exact⟨0,Nat.zero_le _,rfl,rfl⟩
 case round=>
  obtain⟨i,hi5,rfl,rfl⟩:=hrel
  rcases Nat.lt_or_ge i 5 with hlt|hge
  ·obtain rfl|rfl|rfl|rfl|rfl:i=0∨i=1∨i=2∨i=3∨i=4:=by omega
   ·go_wp2_with fail
    go_roundw
    case rel=>exact⟨1,by decide,rfl,trivial⟩
    case measure=>first|decide|(simp[intOf];done)
   ·go_wp2_with fail
    go_roundw
    case rel=>exact⟨2,by decide,rfl,trivial⟩
    case measure=>first|decide|(simp[intOf];done)
   ·go_wp2_with fail
    go_roundw
    case rel=>exact⟨3,by decide,rfl,trivial⟩
    case measure=>first|decide|(simp[intOf];done)
   ·go_wp2_with fail
    go_roundw
    case rel=>exact⟨4,by decide,rfl,trivial⟩
    case measure=>first|decide|(simp[intOf];done)
   ·go_wp2_with fail
    go_roundw
    case rel=>exact⟨5,by decide,rfl,trivial⟩
    case measure=>first|decide|(simp[intOf];done)
  ·obtain rfl:i=5:=by omega
   go_wp2_with fail
   exact bodyPost_ret (v:=.tuple #[.agg #[.string s,.int .i64 n,.string k,.string l,.int .i64 v],.int .i64 0,.int .i64 0]) (by simp[results,results64,go_sem, *]) rfl ⟨rfl,aKc HB7.out nR _ _ _ _ _⟩
end Go.Proofs.YtlibhkkckgkkkaaGreatDoor.Tf
