/-
  No cell of these rows narrows 'for every input' (looked for: loops, veiled, ifaces, maps, wideKeys, modest, calm, conditions, laid).
  DERIVED. THE GIVEN ROWS OF THIS SEAT. 6 by the template 'for every input the law returns true; each argument reads behind the call as it read before'; 0 by the template 'total and deterministic' (their statements: YtkmmiiaadoinpaaTotals.lean).
  GIVEN WITH THE SEED: the statements are not yours to turn. If you find one false, say at which input.
  Laid BY PROGRAM, IN A SANDBOX (cutbox-rows.mjs): the forced cells as the released guide's own fill.sh prints them over the translation 868be26357f1c1a1… (all of the seat's roots in one cut). By AI agents, Wed Nov 11 2026. No macro, syntax, notation, axiom, sorry.
-/
import Derived.Test.YtkmmiiaadoinpaaChecked
import GoSem.Claim
import GoSem.ClaimJoined
import GoSem.ClaimMapViews
import Derived.JoinedTies
import Derived.KernelRfl
namespace Go.Proofs.Ytkmmiiaadoinpaa
/- THE CELL 'sum', in the pinned program and in every row, IS THE sha256 OF THE DUMP (.gsa) THAT YtkmmiiaadoinpaaProg.lean LOADS. Nothing in Lean hashes anything: it is a label: what it is worth is what the hold of that sum in a sandbox is worth. -/
noncomputable def Try.pinned : Pinned := { name := "ytkmmiiaadoinpaa", sum := "868be26357f1c1a1d8c78aac56cbdeb1e894abecb9f25f7cfb73242ce70fb9b7", checked := Try.checked }
namespace Rows
def none {H : Type} : Left H := { results := [], args := [] }

/-- 'hagglerlaw19.MarketTells': WHATEVER THE INPUT: true; the input reads as it did. -/
def marketTellsSpec : ChangeSpec := { name := "marketTells", fn := fun _ => fun
  | [d1, d2, d3, d4, d5] => { results := [.lit (.bool true)], args := [d1, d2, d3, d4, d5] }
  | _ => none }
def marketTellsRow : OpenClaim := { program := "ytkmmiiaadoinpaa", sum := "868be26357f1c1a1d8c78aac56cbdeb1e894abecb9f25f7cfb73242ce70fb9b7", func := "haggler/hagglerlaw19.MarketTells", spec := "marketTells", apart := false }
def MarketTellsSaid : Prop := marketTellsRow.holds Try.pinned (OpenSpec.ofChange marketTellsSpec)

/-- ITS FALSE NEIGHBOUR: 'it returns false'. Refute it at one input. -/
def marketTellsWrong : ChangeSpec := { name := "marketTells", fn := fun _ => fun
  | [d1, d2, d3, d4, d5] => { results := [.lit (.bool false)], args := [d1, d2, d3, d4, d5] }
  | _ => none }
def MarketTellsWrongFalsely : Prop := marketTellsRow.holds Try.pinned (OpenSpec.ofChange marketTellsWrong)

/-- 'hagglerlaw19.MarketFull': WHATEVER THE INPUT: true; the input reads as it did. -/
def marketFullSpec : ChangeSpec := { name := "marketFull", fn := fun _ => fun
  | [d1, d2] => { results := [.lit (.bool true)], args := [d1, d2] }
  | _ => none }
def marketFullRow : OpenClaim := { program := "ytkmmiiaadoinpaa", sum := "868be26357f1c1a1d8c78aac56cbdeb1e894abecb9f25f7cfb73242ce70fb9b7", func := "haggler/hagglerlaw19.MarketFull", spec := "marketFull", apart := false }
def MarketFullSaid : Prop := marketFullRow.holds Try.pinned (OpenSpec.ofChange marketFullSpec)

/-- ITS FALSE NEIGHBOUR: 'it returns false'. Refute it at one input. -/
def marketFullWrong : ChangeSpec := { name := "marketFull", fn := fun _ => fun
  | [d1, d2] => { results := [.lit (.bool false)], args := [d1, d2] }
  | _ => none }
def MarketFullWrongFalsely : Prop := marketFullRow.holds Try.pinned (OpenSpec.ofChange marketFullWrong)

/-- 'hagglerlaw19.MarketGreatest': WHATEVER THE INPUT: true; the input reads as it did. -/
def marketGreatestSpec : ChangeSpec := { name := "marketGreatest", fn := fun _ => fun
  | [d1, d2] => { results := [.lit (.bool true)], args := [d1, d2] }
  | _ => none }
def marketGreatestRow : OpenClaim := { program := "ytkmmiiaadoinpaa", sum := "868be26357f1c1a1d8c78aac56cbdeb1e894abecb9f25f7cfb73242ce70fb9b7", func := "haggler/hagglerlaw19.MarketGreatest", spec := "marketGreatest", apart := false }
def MarketGreatestSaid : Prop := marketGreatestRow.holds Try.pinned (OpenSpec.ofChange marketGreatestSpec)

/-- ITS FALSE NEIGHBOUR: 'it returns false'. Refute it at one input. -/
def marketGreatestWrong : ChangeSpec := { name := "marketGreatest", fn := fun _ => fun
  | [d1, d2] => { results := [.lit (.bool false)], args := [d1, d2] }
  | _ => none }
def MarketGreatestWrongFalsely : Prop := marketGreatestRow.holds Try.pinned (OpenSpec.ofChange marketGreatestWrong)

/-- 'hagglerlaw19.MarketOrder': WHATEVER THE INPUT: true; the input reads as it did. -/
def marketOrderSpec : ChangeSpec := { name := "marketOrder", fn := fun _ => fun
  | [d1, d2] => { results := [.lit (.bool true)], args := [d1, d2] }
  | _ => none }
def marketOrderRow : OpenClaim := { program := "ytkmmiiaadoinpaa", sum := "868be26357f1c1a1d8c78aac56cbdeb1e894abecb9f25f7cfb73242ce70fb9b7", func := "haggler/hagglerlaw19.MarketOrder", spec := "marketOrder", apart := false }
def MarketOrderSaid : Prop := marketOrderRow.holds Try.pinned (OpenSpec.ofChange marketOrderSpec)

/-- ITS FALSE NEIGHBOUR: 'it returns false'. Refute it at one input. -/
def marketOrderWrong : ChangeSpec := { name := "marketOrder", fn := fun _ => fun
  | [d1, d2] => { results := [.lit (.bool false)], args := [d1, d2] }
  | _ => none }
def MarketOrderWrongFalsely : Prop := marketOrderRow.holds Try.pinned (OpenSpec.ofChange marketOrderWrong)

/-- 'hagglerlaw19.MarketTwice': WHATEVER THE INPUT: true; the input reads as it did. -/
def marketTwiceSpec : ChangeSpec := { name := "marketTwice", fn := fun _ => fun
  | [d1, d2, d3, d4] => { results := [.lit (.bool true)], args := [d1, d2, d3, d4] }
  | _ => none }
def marketTwiceRow : OpenClaim := { program := "ytkmmiiaadoinpaa", sum := "868be26357f1c1a1d8c78aac56cbdeb1e894abecb9f25f7cfb73242ce70fb9b7", func := "haggler/hagglerlaw19.MarketTwice", spec := "marketTwice", apart := false }
def MarketTwiceSaid : Prop := marketTwiceRow.holds Try.pinned (OpenSpec.ofChange marketTwiceSpec)

/-- ITS FALSE NEIGHBOUR: 'it returns false'. Refute it at one input. -/
def marketTwiceWrong : ChangeSpec := { name := "marketTwice", fn := fun _ => fun
  | [d1, d2, d3, d4] => { results := [.lit (.bool false)], args := [d1, d2, d3, d4] }
  | _ => none }
def MarketTwiceWrongFalsely : Prop := marketTwiceRow.holds Try.pinned (OpenSpec.ofChange marketTwiceWrong)

/-- 'hagglerlaw19.MarketLost': WHATEVER THE INPUT: true; the input reads as it did. -/
def marketLostSpec : ChangeSpec := { name := "marketLost", fn := fun _ => fun
  | [d1, d2] => { results := [.lit (.bool true)], args := [d1, d2] }
  | _ => none }
def marketLostRow : OpenClaim := { program := "ytkmmiiaadoinpaa", sum := "868be26357f1c1a1d8c78aac56cbdeb1e894abecb9f25f7cfb73242ce70fb9b7", func := "haggler/hagglerlaw19.MarketLost", spec := "marketLost", apart := false }
def MarketLostSaid : Prop := marketLostRow.holds Try.pinned (OpenSpec.ofChange marketLostSpec)

/-- ITS FALSE NEIGHBOUR: 'it returns false'. Refute it at one input. -/
def marketLostWrong : ChangeSpec := { name := "marketLost", fn := fun _ => fun
  | [d1, d2] => { results := [.lit (.bool false)], args := [d1, d2] }
  | _ => none }
def MarketLostWrongFalsely : Prop := marketLostRow.holds Try.pinned (OpenSpec.ofChange marketLostWrong)

/- THE SECOND FORM. 'bulk': how many values and letters a reading holds, each counted each time it is reached (what is shared counts as often as it is met; a slice's spare places count too). A statement '..UptoSaid' is the law's where the arguments, and the package variables that the reading takes, are together of bulk at most 1048576: NARROWER than '..Said'. Prove '..Said' where nothing that the law and all that it calls make is longer than what came in: it says more and counts as full. Else prove '..UptoSaid'. A law counts once. -/
mutual
def uptoBulk {H : Type} : DataW H → Nat
  | .lit (.string bytes) => bytes.length + 1
  | .lit _ => 1
  | .nil => 1
  | .ptr d => uptoBulk d + 1
  | .slice elems spare => uptoBulkAll elems + uptoBulkAll spare + 1
  | .agg parts => uptoBulkAll parts + 1
  | .iface _ d => uptoBulk d + 1
  | .map entries => uptoBulkEntries entries + 1
  | .held _ => 1
def uptoBulkAll {H : Type} : List (DataW H) → Nat
  | [] => 0
  | d :: r => uptoBulk d + uptoBulkAll r
def uptoBulkEntries {H : Type} : List (Lit × DataW H) → Nat
  | [] => 0
  | x :: r => uptoBulkEntry x + uptoBulkEntries r
def uptoBulkEntry {H : Type} : Lit × DataW H → Nat
  | (.string bytes, d) => bytes.length + uptoBulk d + 1
  | (_, d) => uptoBulk d + 1
 end
def uptoSmall : (H : Type) → List (DataW H) → Bool := fun _ ds => decide (uptoBulkAll ds ≤ 1048576)
def OpenSpec.upto (s : _root_.Go.ChangeSpec) : _root_.Go.OpenSpec := { _root_.Go.OpenSpec.ofChange s with cond := some uptoSmall }

/-- 'hagglerlaw19.MarketTells', WHERE WHAT IT READS IS OF BULK AT MOST 1048576: true; the input reads as it did. -/
def marketTellsUptoRow : OpenClaim := { program := "ytkmmiiaadoinpaa", sum := "868be26357f1c1a1d8c78aac56cbdeb1e894abecb9f25f7cfb73242ce70fb9b7", func := "haggler/hagglerlaw19.MarketTells", spec := "marketTells", apart := false, narrowed := true }
def MarketTellsUptoSaid : Prop := marketTellsUptoRow.holds Try.pinned (OpenSpec.upto marketTellsSpec)

/-- 'hagglerlaw19.MarketFull', WHERE WHAT IT READS IS OF BULK AT MOST 1048576: true; the input reads as it did. -/
def marketFullUptoRow : OpenClaim := { program := "ytkmmiiaadoinpaa", sum := "868be26357f1c1a1d8c78aac56cbdeb1e894abecb9f25f7cfb73242ce70fb9b7", func := "haggler/hagglerlaw19.MarketFull", spec := "marketFull", apart := false, narrowed := true }
def MarketFullUptoSaid : Prop := marketFullUptoRow.holds Try.pinned (OpenSpec.upto marketFullSpec)

/-- 'hagglerlaw19.MarketGreatest', WHERE WHAT IT READS IS OF BULK AT MOST 1048576: true; the input reads as it did. -/
def marketGreatestUptoRow : OpenClaim := { program := "ytkmmiiaadoinpaa", sum := "868be26357f1c1a1d8c78aac56cbdeb1e894abecb9f25f7cfb73242ce70fb9b7", func := "haggler/hagglerlaw19.MarketGreatest", spec := "marketGreatest", apart := false, narrowed := true }
def MarketGreatestUptoSaid : Prop := marketGreatestUptoRow.holds Try.pinned (OpenSpec.upto marketGreatestSpec)

/-- 'hagglerlaw19.MarketOrder', WHERE WHAT IT READS IS OF BULK AT MOST 1048576: true; the input reads as it did. -/
def marketOrderUptoRow : OpenClaim := { program := "ytkmmiiaadoinpaa", sum := "868be26357f1c1a1d8c78aac56cbdeb1e894abecb9f25f7cfb73242ce70fb9b7", func := "haggler/hagglerlaw19.MarketOrder", spec := "marketOrder", apart := false, narrowed := true }
def MarketOrderUptoSaid : Prop := marketOrderUptoRow.holds Try.pinned (OpenSpec.upto marketOrderSpec)

/-- 'hagglerlaw19.MarketTwice', WHERE WHAT IT READS IS OF BULK AT MOST 1048576: true; the input reads as it did. -/
def marketTwiceUptoRow : OpenClaim := { program := "ytkmmiiaadoinpaa", sum := "868be26357f1c1a1d8c78aac56cbdeb1e894abecb9f25f7cfb73242ce70fb9b7", func := "haggler/hagglerlaw19.MarketTwice", spec := "marketTwice", apart := false, narrowed := true }
def MarketTwiceUptoSaid : Prop := marketTwiceUptoRow.holds Try.pinned (OpenSpec.upto marketTwiceSpec)

/-- 'hagglerlaw19.MarketLost', WHERE WHAT IT READS IS OF BULK AT MOST 1048576: true; the input reads as it did. -/
def marketLostUptoRow : OpenClaim := { program := "ytkmmiiaadoinpaa", sum := "868be26357f1c1a1d8c78aac56cbdeb1e894abecb9f25f7cfb73242ce70fb9b7", func := "haggler/hagglerlaw19.MarketLost", spec := "marketLost", apart := false, narrowed := true }
def MarketLostUptoSaid : Prop := marketLostUptoRow.holds Try.pinned (OpenSpec.upto marketLostSpec)

end Rows
end Go.Proofs.Ytkmmiiaadoinpaa
