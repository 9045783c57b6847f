/- Part of the proof of TopFeeds: DecA DecB. -/
import Derived.Test.YtlibhkkckgkkkaaGreatDoorZAF
import Derived.Test.YtlibhkkckgkkkaaGreatDoorZAH
import Derived.Test.YtlibhkkckgkkkaaGreatDoorZAQ
import Derived.Lib.SmallJoins
namespace Go.Proofs.YtlibhkkckgkkkaaGreatDoor.Tf
open Go.RowKit Go.Proofs.YtlibhkkckgkkkaaGreatDoor.Mem Go.Proofs.YtlibhkkckgkkkaaGreatDoor.Boo Go.Proofs.Tryz
structure Gl (w:World):Prop where
 ml:∃m:Int,w.cell? ⟨0,0,none⟩=some (.int .i64 m)
 tab:Lib.TabIs prog w "internal/strconv.uint64pow10" .u64 Lib.pow10Tab
 syn:∃tp p,w.var? prog "strconv.ErrSyntax" =some #[.iface tp p]
 ran:∃tp p,w.var? prog "strconv.ErrRange" =some #[.iface tp p]
theorem oV {w w':World} {name:String} {v:Array Value} (h:w.var? prog name=some v) (hb:Below w.heap.size w w'):w'.var? prog name=some v:=by
 unfold World.var? at h ⊢
 rw[Option.bind_eq_some_iff] at h ⊢
 obtain⟨g,hg,hv⟩:=h
 refine⟨g,hg,?_⟩
 have hlt:g<w.heap.size:=by
  rcases Nat.lt_or_ge g w.heap.size with h|h
  ·exact h
  ·rw[Array.getElem?_eq_none h] at hv;cases hv
 rw[hb.block g hlt]
 exact hv
theorem Gl.below {w w':World} (h:Gl w) (hb:Below w.heap.size w w'):Gl w':=by
 obtain⟨⟨m,hm⟩,ht,⟨a,b,hs⟩,⟨c,d,hr⟩⟩:=h
 exact⟨⟨m,aC hb hm⟩,oV ht hb,⟨a,b,oV hs hb⟩,⟨c,d,oV hr hb⟩⟩
def lH (s:ByteArray):Bool:=!s.data.toList.isEmpty&&s.data.toList.all bY
theorem nK (w:World) (s:ByteArray) (pos:Nat):Below w.heap.size w (w.iter s pos):=aB bR _
theorem aCi (s:ByteArray) (w:World):Calls prog 214 #[.string s] w (Ret (.bool (lH s)) w):=by
 go_enter func214,ntmps214
 go_wp2
 go_loopw [4] (fun _ w'=>∃pos:Nat,w'=w.iter s pos∧pos≤s.size∧Hid (∀j y,j<pos→s.data.toList[j]?=some y→bY y=true)) (fun _ w'=>s.size-w'.iterPos w.heap.size)
 case atStart=>exact⟨0,rfl,Nat.zero_le _,fun j y hj=>absurd hj (Nat.not_lt_zero _)⟩
 case round=>
  obtain⟨pos,rfl,hpos,HD⟩:=hrel
  by_cases hp:pos<s.size
  ·have hx:=lE s pos hp
   by_cases ha:(s[pos]'hp).toNat<128
   ·have hnx:∀ty,(Instr.next (.pointer (some ⟨w.heap.size,0,none⟩)) true ty).run prog (w.iter s pos)=_:=fun ty=>run_next_ascii w s pos ty hp ha
    have HX:=Hd hx
    cases hd:bY s[pos] with
    |true=>
     have hd2:=of_decide_eq_true hd
     have g1:¬((s[pos].toNat:Int)<48):=by omega
     have g2:¬(57<(s[pos].toNat:Int)):=by omega
     have HN:Hid (∀j y,j<pos+1→s.data.toList[j]?=some y→bY y=true):=Hd (fun j y hj hy=>by
      by_cases h:j<pos
      ·exact HD.out j y h hy
      ·obtain rfl:j=pos:=by omega
       rw[HX.out] at hy
       rw[←Option.some.inj hy];exact hd)
     clear hx hd hd2
     go_wp2
     go_roundw
     case rel=>exact⟨pos+1,rfl,by omega,HN⟩
     case measure=>simp;omega
    |false=>
     have hd2:=of_decide_eq_false hd
     have HF:Hid (lH s=false):=Hd (by
      unfold lH
      rw[Bool.and_eq_false_iff]
      right
      rw[List.all_eq_false]
      exact⟨s[pos],List.mem_of_getElem? hx,by rw[hd];decide⟩)
     have hb:=nK w s (pos+1)
     have HB:=Hd hb
     clear hb hx hd HX
     by_cases g1:(s[pos].toNat:Int)<48
     ·go_wp2
      go_ret
      exact⟨by rw[HF.out];rfl,HB.out⟩
     ·have g2:57<(s[pos].toNat:Int):=by omega
      go_wp2
      go_ret
      exact⟨by rw[HF.out];rfl,HB.out⟩
   ·have hnx:∀ty,(Instr.next (.pointer (some ⟨w.heap.size,0,none⟩)) true ty).run prog (w.iter s pos)=_:=fun ty=>run_next_any w s pos ty hp
    have hh:=(decode_high s pos hp (by omega)).1
    have HF:Hid (lH s=false):=Hd (by
     unfold lH
     rw[Bool.and_eq_false_iff]
     right
     rw[List.all_eq_false]
     refine⟨s[pos],List.mem_of_getElem? hx,?_⟩
     unfold bY
     rw[decide_eq_false (by omega)]
     decide)
    generalize Utf8.decode s pos=dc at hnx hh
    have g1:¬((dc.1:Int)<48):=by omega
    have g2:57<(dc.1:Int):=by omega
    have HB:=Hd (nK w s (pos+dc.2))
    clear hx hh
    go_wp2
    go_ret
    exact⟨by rw[HF.out];rfl,HB.out⟩
  ·obtain rfl:pos=s.size:=by omega
   have hnx:∀ty,(Instr.next (.pointer (some ⟨w.heap.size,0,none⟩)) true ty).run prog (w.iter s s.size)=_:=fun ty=>run_next_end w s s.size ty hp
   have HF:Hid (lH s=!s.toList.isEmpty):=Hd (by
    unfold lH
    rw[ByteArray.toList_eq]
    have:s.data.toList.all bY=true:=by
     rw[List.all_eq_true]
     intro y hy
     obtain⟨j,hj,rfl⟩:=List.mem_iff_getElem.1 hy
     exact HD.out j _ (by rw[←bI];exact hj) (gE hj)
    rw[this,Bool.and_true])
   have HB:=Hd (nK w s s.size)
   cases he:s.toList.isEmpty with
   |true=>
    rw[he] at HF
    have e1:=List.isEmpty_iff.1 he
    clear HD
    go_wp2
    go_ret
    exact⟨by rw[HF.out];rfl,HB.out⟩
   |false=>
    rw[he] at HF
    clear HD
    go_wp2
    go_ret
    exact⟨by rw[HF.out];rfl,HB.out⟩
theorem zY (w:World) (k:Nat) (os:Array Obj):Below w.heap.size w (Sort.grow (w.drewN k) os):=
 ⟨rfl,rfl,rfl,by show w.heap.size≤(w.heap++os).size;rw[Array.size_append];omega,fun i hi=>by show(w.heap++os)[i]?=_;rw[Array.getElem?_append_left hi]⟩
theorem xW (w:World) (e:TypeId) (s:ByteArray):Below w.heap.size w (Lib.bytesWorld w e s):=Go.Joins.below_bytesWorld _ w e s nR
theorem kH (n:Int) (h:-9223372036854775808≤n∧n≤9223372036854775807) (w:World) (G:Gl w):Calls prog 215 #[.int .i64 n] w (Ret (.string ⟨(Lib.itoa n).toArray⟩) w):=
 (Tryz.strconv_Itoa n h.1 h.2 w G.tab).mono fun _ _ ⟨he,k,os,hw⟩=>⟨he,by rw[hw];exact zY _ _ _⟩
def lL (s:ByteArray):Option Int:=match Lib.atoiAll s.data.toList with
 |.ok v=>some v
 |_=>none
theorem aCg (s:ByteArray) (hs:s.size≤281474976710656) (v:Int) (h:lL s=some v) (w:World):Calls prog 213 #[.string s] w (Ret (.tuple #[.int .i64 v,.nilIface]) w):=by
 have h':Lib.atoiAll s.data.toList=.ok v:=by
  unfold lL at h
  rcases ha:Lib.atoiAll s.data.toList with u|_|_ <;> rw[ha] at h <;> cases h
  rfl
 refine(Tryz.strconv_Atoi_ok s (by omega) v h' w).mono fun e w' ⟨he,hw⟩=>⟨he,?_⟩
 rcases hw with rfl|⟨t,rfl⟩
 ·exact bR
 ·exact xW _ _ _
def Bad (w:World) (e:Ending) (w':World):Prop:=∃N v,e=.returned (.tuple #[.int .i64 v,.iface 383 (.pointer (some ⟨N,0,none⟩))])∧Below w.heap.size w w'
theorem aKg (s:ByteArray) (hs:s.size≤281474976710656) (h:lL s=none) (w:World) (G:Gl w):Calls prog 213 #[.string s] w (Bad w):=by
 obtain⟨tp,p,hv⟩:=G.syn
 obtain⟨tq,q,hq⟩:=G.ran
 rcases ha:Lib.atoiAll s.data.toList with u|_|_
 ·unfold lL at h;rw[ha] at h;cases h
 ·refine(Any.strconv_Atoi_syntax_var Tryz.laysC172 s hs ha tp p w hv).mono fun e w' ⟨N,he,_,_,hb⟩=>⟨N,0,he,hb⟩
 ·refine(Tryz.strconv_Atoi_range_var s hs ha tq q w hq).mono fun e w' ⟨N,he,_,_,hb⟩=>⟨N,_,he,hb⟩
theorem gD (n:Int) (h:-9223372036854775808≤n∧n≤9223372036854775807) (w:World) (G:Gl w):Calls prog 196 #[.int .i64 n] w (Ret (.string ⟨(Lib.itoa n).toArray⟩) w):=by
 have HI:=Hd (fun W hW=>kH n h W hW)
 have HG:=Hd G
 go_enter func196,ntmps196
 go_wp2_with (go_at_call 215;refine(HI.out _ HG.out).mono ?_;rintro e w' ⟨rfl,hb⟩;have HB:=Hd hb;clear hb)
 go_ret
 exact⟨rfl,HB.out⟩
def bU (s:ByteArray) (most:Int):Int:=match lL s with
 |none=>-1
 |some n=>if lH s=true∧¬(min most 1000000000000<n)∧eqS ⟨(Lib.itoa n).toArray⟩ s=true then n else -1
theorem aN7 {s:ByteArray} {n:Int} (h:lL s=some n):-9223372036854775808≤n∧n≤9223372036854775807:=by
 unfold lL at h
 rcases ha:Lib.atoiAll s.data.toList with v|_|_ <;> rw[ha] at h <;> cases h
 unfold Lib.atoiAll at ha
 split at ha
 ·cases ha
 ·dsimp only at ha
  split at ha
  ·cases ha
  ·cases ha
  ·split at ha
   ·cases ha
   ·split at ha
    ·cases ha
    ·injection ha with ha
     subst ha
     split <;> (constructor <;> omega)
theorem mN (s:ByteArray) (hs:s.size≤281474976710656) (most:Int) (w:World) (G:Gl w):Calls prog 126 #[.string s,.int .i64 most] w (Ret (.int .i64 (bU s most)) w):=by
 have HA:=Hd (fun W=>aCi s W)
 cases hn:lL s with
 |none=>
  have HB:=Hd (fun W hW=>aKg s hs hn W hW)
  have HG:=Hd G
  have HC:Hid (bU s most=-1):=Hd (by unfold bU;rw[hn])
  generalize lH s=b at HA
  clear hn hs
  cases b with
  |true=>
   go_enter func126,ntmps126
   go_wp2_with (first
    |(go_at_call 213;refine(HB.out _ HG.out).mono ?_;rintro e w1 ⟨N,v,rfl,hb⟩;have B1:=Hd hb;clear hb)
    |(go_at_call 214;refine(HA.out _).mono ?_;rintro e w2 ⟨rfl,hb⟩;have B2:=Hd (aD B1.out hb);clear hb))
   go_ret
   exact⟨by rw[HC.out];rfl,B2.out⟩
  |false=>
   go_enter func126,ntmps126
   go_wp2_with (first
    |(go_at_call 213;refine(HB.out _ HG.out).mono ?_;rintro e w1 ⟨N,v,rfl,hb⟩;have B1:=Hd hb;clear hb)
    |(go_at_call 214;refine(HA.out _).mono ?_;rintro e w2 ⟨rfl,hb⟩;have B2:=Hd (aD B1.out hb);clear hb))
   go_ret
   exact⟨by rw[HC.out];rfl,B2.out⟩
 |some n=>
  have HB:=Hd (fun W=>aCg s hs n hn W)
  have HG:=Hd G
  have HI:=Hd (fun W hW=>kH n (aN7 hn) W hW)
  have HC:Hid (bU s most=if lH s=true∧¬(min most 1000000000000<n)∧eqS ⟨(Lib.itoa n).toArray⟩ s=true then n else -1):=Hd (by unfold bU;rw[hn])
  generalize (⟨(Lib.itoa n).toArray⟩:ByteArray)=t at HI HC
  clear hn hs
  cases hb:lH s with
  |false=>
   rw[hb] at HA
   have HD:Hid (bU s most=-1):=Hd (by rw[HC.out,hb];simp)
   clear hb
   go_enter func126,ntmps126
   go_wp2_with (first
    |(go_at_call 213;refine(HB.out _).mono ?_;rintro e w1 ⟨rfl,hb⟩;have B1:=Hd hb;clear hb)
    |(go_at_call 214;refine(HA.out _).mono ?_;rintro e w2 ⟨rfl,hb⟩;have B2:=Hd (aD B1.out hb);clear hb))
   go_ret
   exact⟨by rw[HD.out];rfl,B2.out⟩
  |true=>
   rw[hb] at HA
   by_cases hm:min most 1000000000000<n
   ·have HD:Hid (bU s most=-1):=Hd (by rw[HC.out];simp[hm])
    clear hb
    go_enter func126,ntmps126
    go_wp2_with (first
     |(go_at_call 213;refine(HB.out _).mono ?_;rintro e w1 ⟨rfl,hb⟩;have B1:=Hd hb;clear hb)
     |(go_at_call 214;refine(HA.out _).mono ?_;rintro e w2 ⟨rfl,hb⟩;have B2:=Hd (aD B1.out hb);clear hb))
    go_ret
    exact⟨by rw[HD.out];rfl,B2.out⟩
   ·cases he:eqS t s with
    |true=>
     have HD:Hid (bU s most=n):=Hd (by rw[HC.out,if_pos ⟨hb,hm,he⟩])
     have g1:(t.toList==s.toList)=true:=he
     clear hb he
     go_enter func126,ntmps126
     go_wp2_with (first
      |(go_at_call 213;refine(HB.out _).mono ?_;rintro e w1 ⟨rfl,hb⟩;have B1:=Hd hb;clear hb)
      |(go_at_call 214;refine(HA.out _).mono ?_;rintro e w2 ⟨rfl,hb⟩;have B2:=Hd (aD B1.out hb);clear hb)
      |(go_at_call 215;refine(HI.out _ (HG.out.below B2.out)).mono ?_;rintro e w3 ⟨rfl,hb⟩;have B3:=Hd (aD B2.out hb);clear hb))
     go_ret
     exact⟨by rw[HD.out];rfl,B3.out⟩
    |false=>
     have HD:Hid (bU s most=-1):=Hd (by rw[HC.out,he];simp)
     have g1:(t.toList==s.toList)=false:=he
     clear hb he
     go_enter func126,ntmps126
     go_wp2_with (first
      |(go_at_call 213;refine(HB.out _).mono ?_;rintro e w1 ⟨rfl,hb⟩;have B1:=Hd hb;clear hb)
      |(go_at_call 214;refine(HA.out _).mono ?_;rintro e w2 ⟨rfl,hb⟩;have B2:=Hd (aD B1.out hb);clear hb)
      |(go_at_call 215;refine(HI.out _ (HG.out.below B2.out)).mono ?_;rintro e w3 ⟨rfl,hb⟩;have B3:=Hd (aD B2.out hb);clear hb))
     go_ret
     exact⟨by rw[HD.out];rfl,B3.out⟩
end Go.Proofs.YtlibhkkckgkkkaaGreatDoor.Tf
