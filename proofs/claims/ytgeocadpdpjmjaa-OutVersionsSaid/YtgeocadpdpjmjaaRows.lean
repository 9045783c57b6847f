/-
  No cell of these rows narrows 'for every input' (looked for: loops, veiled, ifaces, maps, wideKeys, modest, calm, conditions, laid).
  DERIVED. THE GIVEN ROWS OF THIS SEAT. 5 by the template 'for every input the law returns true; each argument reads behind the call as it read before'; 0 by the template 'total and deterministic' (their statements: YtgeocadpdpjmjaaTotals.lean).
  GIVEN WITH THE SEED: the statements are not yours to turn. If you find one false, say at which input.
  Laid BY PROGRAM, IN A SANDBOX (cutbox-rows.mjs): the forced cells as the released guide's own fill.sh prints them over the translation c240b67ba4f62646… (all of the seat's roots in one cut). By AI agents, Wed Nov 11 2026. No macro, syntax, notation, axiom, sorry.
-/
import Derived.Test.YtgeocadpdpjmjaaChecked
import GoSem.Claim
import GoSem.ClaimJoined
import GoSem.ClaimMapViews
import Derived.JoinedTies
import Derived.KernelRfl
namespace Go.Proofs.Ytgeocadpdpjmjaa
/- THE CELL 'sum', in the pinned program and in every row, IS THE sha256 OF THE DUMP (.gsa) THAT YtgeocadpdpjmjaaProg.lean LOADS. Nothing in Lean hashes anything: it is a label: what it is worth is what the hold of that sum in a sandbox is worth. -/
noncomputable def Try.pinned : Pinned := { name := "ytgeocadpdpjmjaa", sum := "c240b67ba4f62646e3cded699e3fd25aeb9bbd1d8684d80300fd57eb0f136027", checked := Try.checked }
namespace Rows
def none {H : Type} : Left H := { results := [], args := [] }

/-- 'hagglerlaw18.OutDue': WHATEVER THE INPUT: true; the input reads as it did. -/
def outDueSpec : ChangeSpec := { name := "outDue", fn := fun _ => fun
  | [d1, d2, d3, d4] => { results := [.lit (.bool true)], args := [d1, d2, d3, d4] }
  | _ => none }
def outDueRow : OpenClaim := { program := "ytgeocadpdpjmjaa", sum := "c240b67ba4f62646e3cded699e3fd25aeb9bbd1d8684d80300fd57eb0f136027", func := "haggler/hagglerlaw18.OutDue", spec := "outDue", unfollowed := true, recurses := true, apart := false }
def OutDueSaid : Prop := outDueRow.holds Try.pinned (OpenSpec.ofChange outDueSpec)

/-- ITS FALSE NEIGHBOUR: 'it returns false'. Refute it at one input. -/
def outDueWrong : ChangeSpec := { name := "outDue", fn := fun _ => fun
  | [d1, d2, d3, d4] => { results := [.lit (.bool false)], args := [d1, d2, d3, d4] }
  | _ => none }
def OutDueWrongFalsely : Prop := outDueRow.holds Try.pinned (OpenSpec.ofChange outDueWrong)

/-- 'hagglerlaw18.OutSent': WHATEVER THE INPUT: true; the input reads as it did. -/
def outSentSpec : ChangeSpec := { name := "outSent", fn := fun _ => fun
  | [d1, d2] => { results := [.lit (.bool true)], args := [d1, d2] }
  | _ => none }
def outSentRow : OpenClaim := { program := "ytgeocadpdpjmjaa", sum := "c240b67ba4f62646e3cded699e3fd25aeb9bbd1d8684d80300fd57eb0f136027", func := "haggler/hagglerlaw18.OutSent", spec := "outSent", unfollowed := true, recurses := true, apart := false }
def OutSentSaid : Prop := outSentRow.holds Try.pinned (OpenSpec.ofChange outSentSpec)

/-- ITS FALSE NEIGHBOUR: 'it returns false'. Refute it at one input. -/
def outSentWrong : ChangeSpec := { name := "outSent", fn := fun _ => fun
  | [d1, d2] => { results := [.lit (.bool false)], args := [d1, d2] }
  | _ => none }
def OutSentWrongFalsely : Prop := outSentRow.holds Try.pinned (OpenSpec.ofChange outSentWrong)

/-- 'hagglerlaw18.OutDies': WHATEVER THE INPUT: true; the input reads as it did. -/
def outDiesSpec : ChangeSpec := { name := "outDies", fn := fun _ => fun
  | [d1, d2, d3] => { results := [.lit (.bool true)], args := [d1, d2, d3] }
  | _ => none }
def outDiesRow : OpenClaim := { program := "ytgeocadpdpjmjaa", sum := "c240b67ba4f62646e3cded699e3fd25aeb9bbd1d8684d80300fd57eb0f136027", func := "haggler/hagglerlaw18.OutDies", spec := "outDies", unfollowed := true, recurses := true, apart := false }
def OutDiesSaid : Prop := outDiesRow.holds Try.pinned (OpenSpec.ofChange outDiesSpec)

/-- ITS FALSE NEIGHBOUR: 'it returns false'. Refute it at one input. -/
def outDiesWrong : ChangeSpec := { name := "outDies", fn := fun _ => fun
  | [d1, d2, d3] => { results := [.lit (.bool false)], args := [d1, d2, d3] }
  | _ => none }
def OutDiesWrongFalsely : Prop := outDiesRow.holds Try.pinned (OpenSpec.ofChange outDiesWrong)

/-- 'hagglerlaw18.OutVersions': WHATEVER THE INPUT: true; the input reads as it did. -/
def outVersionsSpec : ChangeSpec := { name := "outVersions", fn := fun _ => fun
  | [d1, d2, d3, d4] => { results := [.lit (.bool true)], args := [d1, d2, d3, d4] }
  | _ => none }
def outVersionsRow : OpenClaim := { program := "ytgeocadpdpjmjaa", sum := "c240b67ba4f62646e3cded699e3fd25aeb9bbd1d8684d80300fd57eb0f136027", func := "haggler/hagglerlaw18.OutVersions", spec := "outVersions", unfollowed := true, recurses := true, apart := false }
def OutVersionsSaid : Prop := outVersionsRow.holds Try.pinned (OpenSpec.ofChange outVersionsSpec)

/-- ITS FALSE NEIGHBOUR: 'it returns false'. Refute it at one input. -/
def outVersionsWrong : ChangeSpec := { name := "outVersions", fn := fun _ => fun
  | [d1, d2, d3, d4] => { results := [.lit (.bool false)], args := [d1, d2, d3, d4] }
  | _ => none }
def OutVersionsWrongFalsely : Prop := outVersionsRow.holds Try.pinned (OpenSpec.ofChange outVersionsWrong)

/-- 'hagglerlaw18.OutDone': WHATEVER THE INPUT: true; the input reads as it did. -/
def outDoneSpec : ChangeSpec := { name := "outDone", fn := fun _ => fun
  | [d1, d2, d3, d4] => { results := [.lit (.bool true)], args := [d1, d2, d3, d4] }
  | _ => none }
def outDoneRow : OpenClaim := { program := "ytgeocadpdpjmjaa", sum := "c240b67ba4f62646e3cded699e3fd25aeb9bbd1d8684d80300fd57eb0f136027", func := "haggler/hagglerlaw18.OutDone", spec := "outDone", unfollowed := true, recurses := true, apart := false }
def OutDoneSaid : Prop := outDoneRow.holds Try.pinned (OpenSpec.ofChange outDoneSpec)

/-- ITS FALSE NEIGHBOUR: 'it returns false'. Refute it at one input. -/
def outDoneWrong : ChangeSpec := { name := "outDone", fn := fun _ => fun
  | [d1, d2, d3, d4] => { results := [.lit (.bool false)], args := [d1, d2, d3, d4] }
  | _ => none }
def OutDoneWrongFalsely : Prop := outDoneRow.holds Try.pinned (OpenSpec.ofChange outDoneWrong)

/- THE SECOND FORM. 'bulk': how many values and letters a reading holds, each counted each time it is reached (what is shared counts as often as it is met; a slice's spare places count too). A statement '..UptoSaid' is the law's where the arguments, and the package variables that the reading takes, are together of bulk at most 1048576: NARROWER than '..Said'. Prove '..Said' where nothing that the law and all that it calls make is longer than what came in: it says more and counts as full. Else prove '..UptoSaid'. A law counts once. -/
mutual
def uptoBulk {H : Type} : DataW H → Nat
  | .lit (.string bytes) => bytes.length + 1
  | .lit _ => 1
  | .nil => 1
  | .ptr d => uptoBulk d + 1
  | .slice elems spare => uptoBulkAll elems + uptoBulkAll spare + 1
  | .agg parts => uptoBulkAll parts + 1
  | .iface _ d => uptoBulk d + 1
  | .map entries => uptoBulkEntries entries + 1
  | .held _ => 1
def uptoBulkAll {H : Type} : List (DataW H) → Nat
  | [] => 0
  | d :: r => uptoBulk d + uptoBulkAll r
def uptoBulkEntries {H : Type} : List (Lit × DataW H) → Nat
  | [] => 0
  | x :: r => uptoBulkEntry x + uptoBulkEntries r
def uptoBulkEntry {H : Type} : Lit × DataW H → Nat
  | (.string bytes, d) => bytes.length + uptoBulk d + 1
  | (_, d) => uptoBulk d + 1
 end
def uptoSmall : (H : Type) → List (DataW H) → Bool := fun _ ds => decide (uptoBulkAll ds ≤ 1048576)
def OpenSpec.upto (s : _root_.Go.ChangeSpec) : _root_.Go.OpenSpec := { _root_.Go.OpenSpec.ofChange s with cond := some uptoSmall }

/-- 'hagglerlaw18.OutDue', WHERE WHAT IT READS IS OF BULK AT MOST 1048576: true; the input reads as it did. -/
def outDueUptoRow : OpenClaim := { program := "ytgeocadpdpjmjaa", sum := "c240b67ba4f62646e3cded699e3fd25aeb9bbd1d8684d80300fd57eb0f136027", func := "haggler/hagglerlaw18.OutDue", spec := "outDue", unfollowed := true, recurses := true, apart := false, narrowed := true }
def OutDueUptoSaid : Prop := outDueUptoRow.holds Try.pinned (OpenSpec.upto outDueSpec)

/-- 'hagglerlaw18.OutSent', WHERE WHAT IT READS IS OF BULK AT MOST 1048576: true; the input reads as it did. -/
def outSentUptoRow : OpenClaim := { program := "ytgeocadpdpjmjaa", sum := "c240b67ba4f62646e3cded699e3fd25aeb9bbd1d8684d80300fd57eb0f136027", func := "haggler/hagglerlaw18.OutSent", spec := "outSent", unfollowed := true, recurses := true, apart := false, narrowed := true }
def OutSentUptoSaid : Prop := outSentUptoRow.holds Try.pinned (OpenSpec.upto outSentSpec)

/-- 'hagglerlaw18.OutDies', WHERE WHAT IT READS IS OF BULK AT MOST 1048576: true; the input reads as it did. -/
def outDiesUptoRow : OpenClaim := { program := "ytgeocadpdpjmjaa", sum := "c240b67ba4f62646e3cded699e3fd25aeb9bbd1d8684d80300fd57eb0f136027", func := "haggler/hagglerlaw18.OutDies", spec := "outDies", unfollowed := true, recurses := true, apart := false, narrowed := true }
def OutDiesUptoSaid : Prop := outDiesUptoRow.holds Try.pinned (OpenSpec.upto outDiesSpec)

/-- 'hagglerlaw18.OutVersions', WHERE WHAT IT READS IS OF BULK AT MOST 1048576: true; the input reads as it did. -/
def outVersionsUptoRow : OpenClaim := { program := "ytgeocadpdpjmjaa", sum := "c240b67ba4f62646e3cded699e3fd25aeb9bbd1d8684d80300fd57eb0f136027", func := "haggler/hagglerlaw18.OutVersions", spec := "outVersions", unfollowed := true, recurses := true, apart := false, narrowed := true }
def OutVersionsUptoSaid : Prop := outVersionsUptoRow.holds Try.pinned (OpenSpec.upto outVersionsSpec)

/-- 'hagglerlaw18.OutDone', WHERE WHAT IT READS IS OF BULK AT MOST 1048576: true; the input reads as it did. -/
def outDoneUptoRow : OpenClaim := { program := "ytgeocadpdpjmjaa", sum := "c240b67ba4f62646e3cded699e3fd25aeb9bbd1d8684d80300fd57eb0f136027", func := "haggler/hagglerlaw18.OutDone", spec := "outDone", unfollowed := true, recurses := true, apart := false, narrowed := true }
def OutDoneUptoSaid : Prop := outDoneUptoRow.holds Try.pinned (OpenSpec.upto outDoneSpec)

end Rows
end Go.Proofs.Ytgeocadpdpjmjaa
