/-
  No cell of these rows narrows 'for every input' (looked for: loops, veiled, ifaces, maps, wideKeys, modest, calm, conditions, laid).
  DERIVED. THE GIVEN ROWS OF THIS SEAT. 8 by the template 'for every input the law returns true; each argument reads behind the call as it read before'; 0 by the template 'total and deterministic' (their statements: YtbkhbmjhdggocaaTotals.lean).
  GIVEN WITH THE SEED: the statements are not yours to turn. If you find one false, say at which input.
  Laid BY PROGRAM, IN A SANDBOX (cutbox-rows.mjs): the forced cells as the released guide's own fill.sh prints them over the translation c8eeba8c660c2c1c… (all of the seat's roots in one cut). By AI agents, Wed Nov 11 2026. No macro, syntax, notation, axiom, sorry.
-/
import Derived.Test.YtbkhbmjhdggocaaChecked
import GoSem.Claim
import GoSem.ClaimJoined
import GoSem.ClaimMapViews
import Derived.JoinedTies
import Derived.KernelRfl
namespace Go.Proofs.Ytbkhbmjhdggocaa
/- THE CELL 'sum', in the pinned program and in every row, IS THE sha256 OF THE DUMP (.gsa) THAT YtbkhbmjhdggocaaProg.lean LOADS. Nothing in Lean hashes anything: it is a label: what it is worth is what the hold of that sum in a sandbox is worth. -/
noncomputable def Try.pinned : Pinned := { name := "ytbkhbmjhdggocaa", sum := "c8eeba8c660c2c1c20f4e29525d0e3337c9f42f96430addba80d8baf65bbf4ab", checked := Try.checked }
namespace Rows
def none {H : Type} : Left H := { results := [], args := [] }

/-- 'hagglerlaw01.MoneyParts': WHATEVER THE INPUT: true; the input reads as it did. -/
def moneyPartsSpec : ChangeSpec := { name := "moneyParts", fn := fun _ => fun
  | [d1, d2] => { results := [.lit (.bool true)], args := [d1, d2] }
  | _ => none }
def moneyPartsRow : OpenClaim := { program := "ytbkhbmjhdggocaa", sum := "c8eeba8c660c2c1c20f4e29525d0e3337c9f42f96430addba80d8baf65bbf4ab", func := "haggler/hagglerlaw01.MoneyParts", spec := "moneyParts", apart := false }
def MoneyPartsSaid : Prop := moneyPartsRow.holds Try.pinned (OpenSpec.ofChange moneyPartsSpec)

/-- ITS FALSE NEIGHBOUR: 'it returns false'. Refute it at one input. -/
def moneyPartsWrong : ChangeSpec := { name := "moneyParts", fn := fun _ => fun
  | [d1, d2] => { results := [.lit (.bool false)], args := [d1, d2] }
  | _ => none }
def MoneyPartsWrongFalsely : Prop := moneyPartsRow.holds Try.pinned (OpenSpec.ofChange moneyPartsWrong)

/-- 'hagglerlaw01.MoneyClamps': WHATEVER THE INPUT: true; the input reads as it did. -/
def moneyClampsSpec : ChangeSpec := { name := "moneyClamps", fn := fun _ => fun
  | [d1, d2, d3, d4] => { results := [.lit (.bool true)], args := [d1, d2, d3, d4] }
  | _ => none }
def moneyClampsRow : OpenClaim := { program := "ytbkhbmjhdggocaa", sum := "c8eeba8c660c2c1c20f4e29525d0e3337c9f42f96430addba80d8baf65bbf4ab", func := "haggler/hagglerlaw01.MoneyClamps", spec := "moneyClamps", apart := false }
def MoneyClampsSaid : Prop := moneyClampsRow.holds Try.pinned (OpenSpec.ofChange moneyClampsSpec)

/-- ITS FALSE NEIGHBOUR: 'it returns false'. Refute it at one input. -/
def moneyClampsWrong : ChangeSpec := { name := "moneyClamps", fn := fun _ => fun
  | [d1, d2, d3, d4] => { results := [.lit (.bool false)], args := [d1, d2, d3, d4] }
  | _ => none }
def MoneyClampsWrongFalsely : Prop := moneyClampsRow.holds Try.pinned (OpenSpec.ofChange moneyClampsWrong)

/-- 'hagglerlaw01.MoneyLater': WHATEVER THE INPUT: true; the input reads as it did. -/
def moneyLaterSpec : ChangeSpec := { name := "moneyLater", fn := fun _ => fun
  | [d1, d2, d3] => { results := [.lit (.bool true)], args := [d1, d2, d3] }
  | _ => none }
def moneyLaterRow : OpenClaim := { program := "ytbkhbmjhdggocaa", sum := "c8eeba8c660c2c1c20f4e29525d0e3337c9f42f96430addba80d8baf65bbf4ab", func := "haggler/hagglerlaw01.MoneyLater", spec := "moneyLater", apart := false }
def MoneyLaterSaid : Prop := moneyLaterRow.holds Try.pinned (OpenSpec.ofChange moneyLaterSpec)

/-- ITS FALSE NEIGHBOUR: 'it returns false'. Refute it at one input. -/
def moneyLaterWrong : ChangeSpec := { name := "moneyLater", fn := fun _ => fun
  | [d1, d2, d3] => { results := [.lit (.bool false)], args := [d1, d2, d3] }
  | _ => none }
def MoneyLaterWrongFalsely : Prop := moneyLaterRow.holds Try.pinned (OpenSpec.ofChange moneyLaterWrong)

/-- 'hagglerlaw01.MoneyGrows': WHATEVER THE INPUT: true; the input reads as it did. -/
def moneyGrowsSpec : ChangeSpec := { name := "moneyGrows", fn := fun _ => fun
  | [d1, d2, d3] => { results := [.lit (.bool true)], args := [d1, d2, d3] }
  | _ => none }
def moneyGrowsRow : OpenClaim := { program := "ytbkhbmjhdggocaa", sum := "c8eeba8c660c2c1c20f4e29525d0e3337c9f42f96430addba80d8baf65bbf4ab", func := "haggler/hagglerlaw01.MoneyGrows", spec := "moneyGrows", apart := false }
def MoneyGrowsSaid : Prop := moneyGrowsRow.holds Try.pinned (OpenSpec.ofChange moneyGrowsSpec)

/-- ITS FALSE NEIGHBOUR: 'it returns false'. Refute it at one input. -/
def moneyGrowsWrong : ChangeSpec := { name := "moneyGrows", fn := fun _ => fun
  | [d1, d2, d3] => { results := [.lit (.bool false)], args := [d1, d2, d3] }
  | _ => none }
def MoneyGrowsWrongFalsely : Prop := moneyGrowsRow.holds Try.pinned (OpenSpec.ofChange moneyGrowsWrong)

/-- 'hagglerlaw01.MoneyTells': WHATEVER THE INPUT: true; the input reads as it did. -/
def moneyTellsSpec : ChangeSpec := { name := "moneyTells", fn := fun _ => fun
  | [d1, d2, d3, d4] => { results := [.lit (.bool true)], args := [d1, d2, d3, d4] }
  | _ => none }
def moneyTellsRow : OpenClaim := { program := "ytbkhbmjhdggocaa", sum := "c8eeba8c660c2c1c20f4e29525d0e3337c9f42f96430addba80d8baf65bbf4ab", func := "haggler/hagglerlaw01.MoneyTells", spec := "moneyTells", recurses := true, apart := false }
def MoneyTellsSaid : Prop := moneyTellsRow.holds Try.pinned (OpenSpec.ofChange moneyTellsSpec)

/-- ITS FALSE NEIGHBOUR: 'it returns false'. Refute it at one input. -/
def moneyTellsWrong : ChangeSpec := { name := "moneyTells", fn := fun _ => fun
  | [d1, d2, d3, d4] => { results := [.lit (.bool false)], args := [d1, d2, d3, d4] }
  | _ => none }
def MoneyTellsWrongFalsely : Prop := moneyTellsRow.holds Try.pinned (OpenSpec.ofChange moneyTellsWrong)

/-- 'hagglerlaw01.MoneyBack': WHATEVER THE INPUT: true; the input reads as it did. -/
def moneyBackSpec : ChangeSpec := { name := "moneyBack", fn := fun _ => fun
  | [d1, d2, d3] => { results := [.lit (.bool true)], args := [d1, d2, d3] }
  | _ => none }
def moneyBackRow : OpenClaim := { program := "ytbkhbmjhdggocaa", sum := "c8eeba8c660c2c1c20f4e29525d0e3337c9f42f96430addba80d8baf65bbf4ab", func := "haggler/hagglerlaw01.MoneyBack", spec := "moneyBack", apart := false }
def MoneyBackSaid : Prop := moneyBackRow.holds Try.pinned (OpenSpec.ofChange moneyBackSpec)

/-- ITS FALSE NEIGHBOUR: 'it returns false'. Refute it at one input. -/
def moneyBackWrong : ChangeSpec := { name := "moneyBack", fn := fun _ => fun
  | [d1, d2, d3] => { results := [.lit (.bool false)], args := [d1, d2, d3] }
  | _ => none }
def MoneyBackWrongFalsely : Prop := moneyBackRow.holds Try.pinned (OpenSpec.ofChange moneyBackWrong)

/-- 'hagglertop.Names': WHATEVER THE INPUT: true; the input reads as it did. -/
def namesSpec : ChangeSpec := { name := "names", fn := fun _ => fun
  | [] => { results := [.lit (.bool true)], args := [] }
  | _ => none }
def namesRow : OpenClaim := { program := "ytbkhbmjhdggocaa", sum := "c8eeba8c660c2c1c20f4e29525d0e3337c9f42f96430addba80d8baf65bbf4ab", func := "haggler/hagglertop.Names", spec := "names", apart := false }
def NamesSaid : Prop := namesRow.holds Try.pinned (OpenSpec.ofChange namesSpec)

/-- ITS FALSE NEIGHBOUR: 'it returns false'. Refute it at one input. -/
def namesWrong : ChangeSpec := { name := "names", fn := fun _ => fun
  | [] => { results := [.lit (.bool false)], args := [] }
  | _ => none }
def NamesWrongFalsely : Prop := namesRow.holds Try.pinned (OpenSpec.ofChange namesWrong)

/-- 'hagglerlaw01.MoneyTurned': WHATEVER THE INPUT: true; the input reads as it did. -/
def moneyTurnedSpec : ChangeSpec := { name := "moneyTurned", fn := fun _ => fun
  | [d1, d2] => { results := [.lit (.bool true)], args := [d1, d2] }
  | _ => none }
def moneyTurnedRow : OpenClaim := { program := "ytbkhbmjhdggocaa", sum := "c8eeba8c660c2c1c20f4e29525d0e3337c9f42f96430addba80d8baf65bbf4ab", func := "haggler/hagglerlaw01.MoneyTurned", spec := "moneyTurned", apart := false }
def MoneyTurnedSaid : Prop := moneyTurnedRow.holds Try.pinned (OpenSpec.ofChange moneyTurnedSpec)

/-- ITS FALSE NEIGHBOUR: 'it returns false'. Refute it at one input. -/
def moneyTurnedWrong : ChangeSpec := { name := "moneyTurned", fn := fun _ => fun
  | [d1, d2] => { results := [.lit (.bool false)], args := [d1, d2] }
  | _ => none }
def MoneyTurnedWrongFalsely : Prop := moneyTurnedRow.holds Try.pinned (OpenSpec.ofChange moneyTurnedWrong)

/- THE SECOND FORM. 'bulk': how many values and letters a reading holds, each counted each time it is reached (what is shared counts as often as it is met; a slice's spare places count too). A statement '..UptoSaid' is the law's where the arguments, and the package variables that the reading takes, are together of bulk at most 1048576: NARROWER than '..Said'. Prove '..Said' where nothing that the law and all that it calls make is longer than what came in: it says more and counts as full. Else prove '..UptoSaid'. A law counts once. -/
mutual
def uptoBulk {H : Type} : DataW H → Nat
  | .lit (.string bytes) => bytes.length + 1
  | .lit _ => 1
  | .nil => 1
  | .ptr d => uptoBulk d + 1
  | .slice elems spare => uptoBulkAll elems + uptoBulkAll spare + 1
  | .agg parts => uptoBulkAll parts + 1
  | .iface _ d => uptoBulk d + 1
  | .map entries => uptoBulkEntries entries + 1
  | .held _ => 1
def uptoBulkAll {H : Type} : List (DataW H) → Nat
  | [] => 0
  | d :: r => uptoBulk d + uptoBulkAll r
def uptoBulkEntries {H : Type} : List (Lit × DataW H) → Nat
  | [] => 0
  | x :: r => uptoBulkEntry x + uptoBulkEntries r
def uptoBulkEntry {H : Type} : Lit × DataW H → Nat
  | (.string bytes, d) => bytes.length + uptoBulk d + 1
  | (_, d) => uptoBulk d + 1
 end
def uptoSmall : (H : Type) → List (DataW H) → Bool := fun _ ds => decide (uptoBulkAll ds ≤ 1048576)
def OpenSpec.upto (s : _root_.Go.ChangeSpec) : _root_.Go.OpenSpec := { _root_.Go.OpenSpec.ofChange s with cond := some uptoSmall }

/-- 'hagglerlaw01.MoneyParts', WHERE WHAT IT READS IS OF BULK AT MOST 1048576: true; the input reads as it did. -/
def moneyPartsUptoRow : OpenClaim := { program := "ytbkhbmjhdggocaa", sum := "c8eeba8c660c2c1c20f4e29525d0e3337c9f42f96430addba80d8baf65bbf4ab", func := "haggler/hagglerlaw01.MoneyParts", spec := "moneyParts", apart := false, narrowed := true }
def MoneyPartsUptoSaid : Prop := moneyPartsUptoRow.holds Try.pinned (OpenSpec.upto moneyPartsSpec)

/-- 'hagglerlaw01.MoneyClamps', WHERE WHAT IT READS IS OF BULK AT MOST 1048576: true; the input reads as it did. -/
def moneyClampsUptoRow : OpenClaim := { program := "ytbkhbmjhdggocaa", sum := "c8eeba8c660c2c1c20f4e29525d0e3337c9f42f96430addba80d8baf65bbf4ab", func := "haggler/hagglerlaw01.MoneyClamps", spec := "moneyClamps", apart := false, narrowed := true }
def MoneyClampsUptoSaid : Prop := moneyClampsUptoRow.holds Try.pinned (OpenSpec.upto moneyClampsSpec)

/-- 'hagglerlaw01.MoneyLater', WHERE WHAT IT READS IS OF BULK AT MOST 1048576: true; the input reads as it did. -/
def moneyLaterUptoRow : OpenClaim := { program := "ytbkhbmjhdggocaa", sum := "c8eeba8c660c2c1c20f4e29525d0e3337c9f42f96430addba80d8baf65bbf4ab", func := "haggler/hagglerlaw01.MoneyLater", spec := "moneyLater", apart := false, narrowed := true }
def MoneyLaterUptoSaid : Prop := moneyLaterUptoRow.holds Try.pinned (OpenSpec.upto moneyLaterSpec)

/-- 'hagglerlaw01.MoneyGrows', WHERE WHAT IT READS IS OF BULK AT MOST 1048576: true; the input reads as it did. -/
def moneyGrowsUptoRow : OpenClaim := { program := "ytbkhbmjhdggocaa", sum := "c8eeba8c660c2c1c20f4e29525d0e3337c9f42f96430addba80d8baf65bbf4ab", func := "haggler/hagglerlaw01.MoneyGrows", spec := "moneyGrows", apart := false, narrowed := true }
def MoneyGrowsUptoSaid : Prop := moneyGrowsUptoRow.holds Try.pinned (OpenSpec.upto moneyGrowsSpec)

/-- 'hagglerlaw01.MoneyTells', WHERE WHAT IT READS IS OF BULK AT MOST 1048576: true; the input reads as it did. -/
def moneyTellsUptoRow : OpenClaim := { program := "ytbkhbmjhdggocaa", sum := "c8eeba8c660c2c1c20f4e29525d0e3337c9f42f96430addba80d8baf65bbf4ab", func := "haggler/hagglerlaw01.MoneyTells", spec := "moneyTells", recurses := true, apart := false, narrowed := true }
def MoneyTellsUptoSaid : Prop := moneyTellsUptoRow.holds Try.pinned (OpenSpec.upto moneyTellsSpec)

/-- 'hagglerlaw01.MoneyBack', WHERE WHAT IT READS IS OF BULK AT MOST 1048576: true; the input reads as it did. -/
def moneyBackUptoRow : OpenClaim := { program := "ytbkhbmjhdggocaa", sum := "c8eeba8c660c2c1c20f4e29525d0e3337c9f42f96430addba80d8baf65bbf4ab", func := "haggler/hagglerlaw01.MoneyBack", spec := "moneyBack", apart := false, narrowed := true }
def MoneyBackUptoSaid : Prop := moneyBackUptoRow.holds Try.pinned (OpenSpec.upto moneyBackSpec)

/-- 'hagglertop.Names', WHERE WHAT IT READS IS OF BULK AT MOST 1048576: true; the input reads as it did. -/
def namesUptoRow : OpenClaim := { program := "ytbkhbmjhdggocaa", sum := "c8eeba8c660c2c1c20f4e29525d0e3337c9f42f96430addba80d8baf65bbf4ab", func := "haggler/hagglertop.Names", spec := "names", apart := false, narrowed := true }
def NamesUptoSaid : Prop := namesUptoRow.holds Try.pinned (OpenSpec.upto namesSpec)

/-- 'hagglerlaw01.MoneyTurned', WHERE WHAT IT READS IS OF BULK AT MOST 1048576: true; the input reads as it did. -/
def moneyTurnedUptoRow : OpenClaim := { program := "ytbkhbmjhdggocaa", sum := "c8eeba8c660c2c1c20f4e29525d0e3337c9f42f96430addba80d8baf65bbf4ab", func := "haggler/hagglerlaw01.MoneyTurned", spec := "moneyTurned", apart := false, narrowed := true }
def MoneyTurnedUptoSaid : Prop := moneyTurnedUptoRow.holds Try.pinned (OpenSpec.upto moneyTurnedSpec)

end Rows
end Go.Proofs.Ytbkhbmjhdggocaa
