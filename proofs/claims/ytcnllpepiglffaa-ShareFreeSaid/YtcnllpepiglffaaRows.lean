/-
  No cell of these rows narrows 'for every input' (looked for: loops, veiled, ifaces, maps, wideKeys, modest, calm, conditions, laid).
  DERIVED. THE GIVEN ROWS OF THIS SEAT. 5 by the template 'for every input the law returns true; each argument reads behind the call as it read before'; 0 by the template 'total and deterministic' (their statements: YtcnllpepiglffaaTotals.lean).
  GIVEN WITH THE SEED: the statements are not yours to turn. If you find one false, say at which input.
  Laid BY PROGRAM, IN A SANDBOX (cutbox-rows.mjs): the forced cells as the released guide's own fill.sh prints them over the translation 24856423b972058d… (all of the seat's roots in one cut). By AI agents, Wed Nov 11 2026. No macro, syntax, notation, axiom, sorry.
-/
import Derived.Test.YtcnllpepiglffaaChecked
import GoSem.Claim
import GoSem.ClaimJoined
import GoSem.ClaimMapViews
import Derived.JoinedTies
import Derived.KernelRfl
namespace Go.Proofs.Ytcnllpepiglffaa
/- THE CELL 'sum', in the pinned program and in every row, IS THE sha256 OF THE DUMP (.gsa) THAT YtcnllpepiglffaaProg.lean LOADS. Nothing in Lean hashes anything: it is a label: what it is worth is what the hold of that sum in a sandbox is worth. -/
noncomputable def Try.pinned : Pinned := { name := "ytcnllpepiglffaa", sum := "24856423b972058d4f9ca38aab8a24ff86ac50825fbbdc6adb03813a4416cca1", checked := Try.checked }
namespace Rows
def none {H : Type} : Left H := { results := [], args := [] }

/-- 'reliquarylaw11.SuiteScalars': WHATEVER THE INPUT: true; the input reads as it did. -/
def suiteScalarsSpec : ChangeSpec := { name := "suiteScalars", fn := fun _ => fun
  | [d1, d2, d3] => { results := [.lit (.bool true)], args := [d1, d2, d3] }
  | _ => none }
def suiteScalarsRow : OpenClaim := { program := "ytcnllpepiglffaa", sum := "24856423b972058d4f9ca38aab8a24ff86ac50825fbbdc6adb03813a4416cca1", func := "reliquary/reliquarylaw11.SuiteScalars", spec := "suiteScalars", inPlace := ["math/bits.Add64", "math/bits.Sub64"], unfollowed := true, recurses := true, named := ["math/bits.divideError", "math/bits.overflowError"], apart := false }
def SuiteScalarsSaid : Prop := suiteScalarsRow.holds Try.pinned (OpenSpec.ofChange suiteScalarsSpec)

/-- ITS FALSE NEIGHBOUR: 'it returns false'. Refute it at one input. -/
def suiteScalarsWrong : ChangeSpec := { name := "suiteScalars", fn := fun _ => fun
  | [d1, d2, d3] => { results := [.lit (.bool false)], args := [d1, d2, d3] }
  | _ => none }
def SuiteScalarsWrongFalsely : Prop := suiteScalarsRow.holds Try.pinned (OpenSpec.ofChange suiteScalarsWrong)

/-- 'reliquarylaw19.ShareValues': WHATEVER THE INPUT: true; the input reads as it did. -/
def shareValuesSpec : ChangeSpec := { name := "shareValues", fn := fun _ => fun
  | [d1, d2, d3, d4] => { results := [.lit (.bool true)], args := [d1, d2, d3, d4] }
  | _ => none }
def shareValuesRow : OpenClaim := { program := "ytcnllpepiglffaa", sum := "24856423b972058d4f9ca38aab8a24ff86ac50825fbbdc6adb03813a4416cca1", func := "reliquary/reliquarylaw19.ShareValues", spec := "shareValues", inPlace := ["math/bits.Add64", "math/bits.Sub64"], unfollowed := true, recurses := true, named := ["math/bits.divideError", "math/bits.overflowError"], apart := false }
def ShareValuesSaid : Prop := shareValuesRow.holds Try.pinned (OpenSpec.ofChange shareValuesSpec)

/-- ITS FALSE NEIGHBOUR: 'it returns false'. Refute it at one input. -/
def shareValuesWrong : ChangeSpec := { name := "shareValues", fn := fun _ => fun
  | [d1, d2, d3, d4] => { results := [.lit (.bool false)], args := [d1, d2, d3, d4] }
  | _ => none }
def ShareValuesWrongFalsely : Prop := shareValuesRow.holds Try.pinned (OpenSpec.ofChange shareValuesWrong)

/-- 'reliquarylaw11.SuiteField': WHATEVER THE INPUT: true; the input reads as it did. -/
def suiteFieldSpec : ChangeSpec := { name := "suiteField", fn := fun _ => fun
  | [d1, d2, d3, d4] => { results := [.lit (.bool true)], args := [d1, d2, d3, d4] }
  | _ => none }
def suiteFieldRow : OpenClaim := { program := "ytcnllpepiglffaa", sum := "24856423b972058d4f9ca38aab8a24ff86ac50825fbbdc6adb03813a4416cca1", func := "reliquary/reliquarylaw11.SuiteField", spec := "suiteField", inPlace := ["math/bits.Add64", "math/bits.Sub64", "internal/bytealg.IndexByteString"], unfollowed := true, recurses := true, named := ["math/bits.divideError", "math/bits.overflowError"], apart := false }
def SuiteFieldSaid : Prop := suiteFieldRow.holds Try.pinned (OpenSpec.ofChange suiteFieldSpec)

/-- ITS FALSE NEIGHBOUR: 'it returns false'. Refute it at one input. -/
def suiteFieldWrong : ChangeSpec := { name := "suiteField", fn := fun _ => fun
  | [d1, d2, d3, d4] => { results := [.lit (.bool false)], args := [d1, d2, d3, d4] }
  | _ => none }
def SuiteFieldWrongFalsely : Prop := suiteFieldRow.holds Try.pinned (OpenSpec.ofChange suiteFieldWrong)

/-- 'reliquarylaw19.ShareFree': WHATEVER THE INPUT: true; the input reads as it did. -/
def shareFreeSpec : ChangeSpec := { name := "shareFree", fn := fun _ => fun
  | [d1, d2, d3, d4] => { results := [.lit (.bool true)], args := [d1, d2, d3, d4] }
  | _ => none }
def shareFreeRow : OpenClaim := { program := "ytcnllpepiglffaa", sum := "24856423b972058d4f9ca38aab8a24ff86ac50825fbbdc6adb03813a4416cca1", func := "reliquary/reliquarylaw19.ShareFree", spec := "shareFree", inPlace := ["math/bits.Add64", "math/bits.Sub64"], unfollowed := true, recurses := true, apart := false }
def ShareFreeSaid : Prop := shareFreeRow.holds Try.pinned (OpenSpec.ofChange shareFreeSpec)

/-- ITS FALSE NEIGHBOUR: 'it returns false'. Refute it at one input. -/
def shareFreeWrong : ChangeSpec := { name := "shareFree", fn := fun _ => fun
  | [d1, d2, d3, d4] => { results := [.lit (.bool false)], args := [d1, d2, d3, d4] }
  | _ => none }
def ShareFreeWrongFalsely : Prop := shareFreeRow.holds Try.pinned (OpenSpec.ofChange shareFreeWrong)

/-- 'reliquarylaw19.ShareBack': WHATEVER THE INPUT: true; the input reads as it did. -/
def shareBackSpec : ChangeSpec := { name := "shareBack", fn := fun _ => fun
  | [d1, d2, d3, d4] => { results := [.lit (.bool true)], args := [d1, d2, d3, d4] }
  | _ => none }
def shareBackRow : OpenClaim := { program := "ytcnllpepiglffaa", sum := "24856423b972058d4f9ca38aab8a24ff86ac50825fbbdc6adb03813a4416cca1", func := "reliquary/reliquarylaw19.ShareBack", spec := "shareBack", inPlace := ["math/bits.Add64", "math/bits.Sub64"], unfollowed := true, recurses := true, apart := false }
def ShareBackSaid : Prop := shareBackRow.holds Try.pinned (OpenSpec.ofChange shareBackSpec)

/-- ITS FALSE NEIGHBOUR: 'it returns false'. Refute it at one input. -/
def shareBackWrong : ChangeSpec := { name := "shareBack", fn := fun _ => fun
  | [d1, d2, d3, d4] => { results := [.lit (.bool false)], args := [d1, d2, d3, d4] }
  | _ => none }
def ShareBackWrongFalsely : Prop := shareBackRow.holds Try.pinned (OpenSpec.ofChange shareBackWrong)

/- THE SECOND FORM. 'bulk': how many values and letters a reading holds, each counted each time it is reached (what is shared counts as often as it is met; a slice's spare places count too). A statement '..UptoSaid' is the law's where the arguments, and the package variables that the reading takes, are together of bulk at most 1048576: NARROWER than '..Said'. Prove '..Said' where nothing that the law and all that it calls make is longer than what came in: it says more and counts as full. Else prove '..UptoSaid'. A law counts once. -/
mutual
def uptoBulk {H : Type} : DataW H → Nat
  | .lit (.string bytes) => bytes.length + 1
  | .lit _ => 1
  | .nil => 1
  | .ptr d => uptoBulk d + 1
  | .slice elems spare => uptoBulkAll elems + uptoBulkAll spare + 1
  | .agg parts => uptoBulkAll parts + 1
  | .iface _ d => uptoBulk d + 1
  | .map entries => uptoBulkEntries entries + 1
  | .held _ => 1
def uptoBulkAll {H : Type} : List (DataW H) → Nat
  | [] => 0
  | d :: r => uptoBulk d + uptoBulkAll r
def uptoBulkEntries {H : Type} : List (Lit × DataW H) → Nat
  | [] => 0
  | x :: r => uptoBulkEntry x + uptoBulkEntries r
def uptoBulkEntry {H : Type} : Lit × DataW H → Nat
  | (.string bytes, d) => bytes.length + uptoBulk d + 1
  | (_, d) => uptoBulk d + 1
 end
def uptoSmall : (H : Type) → List (DataW H) → Bool := fun _ ds => decide (uptoBulkAll ds ≤ 1048576)
def OpenSpec.upto (s : _root_.Go.ChangeSpec) : _root_.Go.OpenSpec := { _root_.Go.OpenSpec.ofChange s with cond := some uptoSmall }

/-- 'reliquarylaw11.SuiteScalars', WHERE WHAT IT READS IS OF BULK AT MOST 1048576: true; the input reads as it did. -/
def suiteScalarsUptoRow : OpenClaim := { program := "ytcnllpepiglffaa", sum := "24856423b972058d4f9ca38aab8a24ff86ac50825fbbdc6adb03813a4416cca1", func := "reliquary/reliquarylaw11.SuiteScalars", spec := "suiteScalars", inPlace := ["math/bits.Add64", "math/bits.Sub64"], unfollowed := true, recurses := true, named := ["math/bits.divideError", "math/bits.overflowError"], apart := false, narrowed := true }
def SuiteScalarsUptoSaid : Prop := suiteScalarsUptoRow.holds Try.pinned (OpenSpec.upto suiteScalarsSpec)

/-- 'reliquarylaw19.ShareValues', WHERE WHAT IT READS IS OF BULK AT MOST 1048576: true; the input reads as it did. -/
def shareValuesUptoRow : OpenClaim := { program := "ytcnllpepiglffaa", sum := "24856423b972058d4f9ca38aab8a24ff86ac50825fbbdc6adb03813a4416cca1", func := "reliquary/reliquarylaw19.ShareValues", spec := "shareValues", inPlace := ["math/bits.Add64", "math/bits.Sub64"], unfollowed := true, recurses := true, named := ["math/bits.divideError", "math/bits.overflowError"], apart := false, narrowed := true }
def ShareValuesUptoSaid : Prop := shareValuesUptoRow.holds Try.pinned (OpenSpec.upto shareValuesSpec)

/-- 'reliquarylaw11.SuiteField', WHERE WHAT IT READS IS OF BULK AT MOST 1048576: true; the input reads as it did. -/
def suiteFieldUptoRow : OpenClaim := { program := "ytcnllpepiglffaa", sum := "24856423b972058d4f9ca38aab8a24ff86ac50825fbbdc6adb03813a4416cca1", func := "reliquary/reliquarylaw11.SuiteField", spec := "suiteField", inPlace := ["math/bits.Add64", "math/bits.Sub64", "internal/bytealg.IndexByteString"], unfollowed := true, recurses := true, named := ["math/bits.divideError", "math/bits.overflowError"], apart := false, narrowed := true }
def SuiteFieldUptoSaid : Prop := suiteFieldUptoRow.holds Try.pinned (OpenSpec.upto suiteFieldSpec)

/-- 'reliquarylaw19.ShareFree', WHERE WHAT IT READS IS OF BULK AT MOST 1048576: true; the input reads as it did. -/
def shareFreeUptoRow : OpenClaim := { program := "ytcnllpepiglffaa", sum := "24856423b972058d4f9ca38aab8a24ff86ac50825fbbdc6adb03813a4416cca1", func := "reliquary/reliquarylaw19.ShareFree", spec := "shareFree", inPlace := ["math/bits.Add64", "math/bits.Sub64"], unfollowed := true, recurses := true, apart := false, narrowed := true }
def ShareFreeUptoSaid : Prop := shareFreeUptoRow.holds Try.pinned (OpenSpec.upto shareFreeSpec)

/-- 'reliquarylaw19.ShareBack', WHERE WHAT IT READS IS OF BULK AT MOST 1048576: true; the input reads as it did. -/
def shareBackUptoRow : OpenClaim := { program := "ytcnllpepiglffaa", sum := "24856423b972058d4f9ca38aab8a24ff86ac50825fbbdc6adb03813a4416cca1", func := "reliquary/reliquarylaw19.ShareBack", spec := "shareBack", inPlace := ["math/bits.Add64", "math/bits.Sub64"], unfollowed := true, recurses := true, apart := false, narrowed := true }
def ShareBackUptoSaid : Prop := shareBackUptoRow.holds Try.pinned (OpenSpec.upto shareBackSpec)

end Rows
end Go.Proofs.Ytcnllpepiglffaa
