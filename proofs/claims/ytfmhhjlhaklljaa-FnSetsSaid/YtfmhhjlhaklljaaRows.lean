/-
  No cell of these rows narrows 'for every input' (looked for: loops, veiled, ifaces, maps, wideKeys, modest, calm, conditions, laid).
  DERIVED. THE GIVEN ROWS OF THIS SEAT. 9 by the template 'for every input the law returns true; each argument reads behind the call as it read before'; 0 by the template 'total and deterministic' (their statements: YtfmhhjlhaklljaaTotals.lean).
  GIVEN WITH THE SEED: the statements are not yours to turn. If you find one false, say at which input.
  Laid BY PROGRAM, IN A SANDBOX (cutbox-rows.mjs): the forced cells as the released guide's own fill.sh prints them over the translation 1e53e48a6fecfe69… (all of the seat's roots in one cut). By AI agents, Wed Nov 11 2026. No macro, syntax, notation, axiom, sorry.
-/
import Derived.Test.YtfmhhjlhaklljaaChecked
import GoSem.Claim
import GoSem.ClaimJoined
import GoSem.ClaimMapViews
import Derived.JoinedTies
import Derived.KernelRfl
namespace Go.Proofs.Ytfmhhjlhaklljaa
/- THE CELL 'sum', in the pinned program and in every row, IS THE sha256 OF THE DUMP (.gsa) THAT YtfmhhjlhaklljaaProg.lean LOADS. Nothing in Lean hashes anything: it is a label: what it is worth is what the hold of that sum in a sandbox is worth. -/
noncomputable def Try.pinned : Pinned := { name := "ytfmhhjlhaklljaa", sum := "1e53e48a6fecfe6923d8f7c9b77a541b18bf68f4ed2f22c1e5d7769f4ab68f2e", checked := Try.checked }
namespace Rows
def none {H : Type} : Left H := { results := [], args := [] }

/-- 'laws.FnWeaks': WHATEVER THE INPUT: true; the input reads as it did. -/
def fnWeaksSpec : ChangeSpec := { name := "fnWeaks", fn := fun _ => fun
  | [d] => { results := [.lit (.bool true)], args := [d] }
  | _ => none }
def fnWeaksRow : OpenClaim := { program := "ytfmhhjlhaklljaa", sum := "1e53e48a6fecfe6923d8f7c9b77a541b18bf68f4ed2f22c1e5d7769f4ab68f2e", func := "loop.example/g00503/laws.FnWeaks", spec := "fnWeaks", apart := false }
def FnWeaksSaid : Prop := fnWeaksRow.holds Try.pinned (OpenSpec.ofChange fnWeaksSpec)

/-- ITS FALSE NEIGHBOUR: 'it returns false'. Refute it at one input. -/
def fnWeaksWrong : ChangeSpec := { name := "fnWeaks", fn := fun _ => fun
  | [d] => { results := [.lit (.bool false)], args := [d] }
  | _ => none }
def FnWeaksWrongFalsely : Prop := fnWeaksRow.holds Try.pinned (OpenSpec.ofChange fnWeaksWrong)

/-- 'laws.FnExactSumsOf': WHATEVER THE INPUT: true; the input reads as it did. -/
def fnExactSumsOfSpec : ChangeSpec := { name := "fnExactSumsOf", fn := fun _ => fun
  | [d1, d2] => { results := [.lit (.bool true)], args := [d1, d2] }
  | _ => none }
def fnExactSumsOfRow : OpenClaim := { program := "ytfmhhjlhaklljaa", sum := "1e53e48a6fecfe6923d8f7c9b77a541b18bf68f4ed2f22c1e5d7769f4ab68f2e", func := "loop.example/g00503/laws.FnExactSumsOf", spec := "fnExactSumsOf", apart := false }
def FnExactSumsOfSaid : Prop := fnExactSumsOfRow.holds Try.pinned (OpenSpec.ofChange fnExactSumsOfSpec)

/-- ITS FALSE NEIGHBOUR: 'it returns false'. Refute it at one input. -/
def fnExactSumsOfWrong : ChangeSpec := { name := "fnExactSumsOf", fn := fun _ => fun
  | [d1, d2] => { results := [.lit (.bool false)], args := [d1, d2] }
  | _ => none }
def FnExactSumsOfWrongFalsely : Prop := fnExactSumsOfRow.holds Try.pinned (OpenSpec.ofChange fnExactSumsOfWrong)

/-- 'laws.FnVars': WHATEVER THE INPUT: true; the input reads as it did. -/
def fnVarsSpec : ChangeSpec := { name := "fnVars", fn := fun _ => fun
  | [d] => { results := [.lit (.bool true)], args := [d] }
  | _ => none }
def fnVarsRow : OpenClaim := { program := "ytfmhhjlhaklljaa", sum := "1e53e48a6fecfe6923d8f7c9b77a541b18bf68f4ed2f22c1e5d7769f4ab68f2e", func := "loop.example/g00503/laws.FnVars", spec := "fnVars", apart := false }
def FnVarsSaid : Prop := fnVarsRow.holds Try.pinned (OpenSpec.ofChange fnVarsSpec)

/-- ITS FALSE NEIGHBOUR: 'it returns false'. Refute it at one input. -/
def fnVarsWrong : ChangeSpec := { name := "fnVars", fn := fun _ => fun
  | [d] => { results := [.lit (.bool false)], args := [d] }
  | _ => none }
def FnVarsWrongFalsely : Prop := fnVarsRow.holds Try.pinned (OpenSpec.ofChange fnVarsWrong)

/-- 'laws.FnManApart': WHATEVER THE INPUT: true; the input reads as it did. -/
def fnManApartSpec : ChangeSpec := { name := "fnManApart", fn := fun _ => fun
  | [d] => { results := [.lit (.bool true)], args := [d] }
  | _ => none }
def fnManApartRow : OpenClaim := { program := "ytfmhhjlhaklljaa", sum := "1e53e48a6fecfe6923d8f7c9b77a541b18bf68f4ed2f22c1e5d7769f4ab68f2e", func := "loop.example/g00503/laws.FnManApart", spec := "fnManApart", apart := false }
def FnManApartSaid : Prop := fnManApartRow.holds Try.pinned (OpenSpec.ofChange fnManApartSpec)

/-- ITS FALSE NEIGHBOUR: 'it returns false'. Refute it at one input. -/
def fnManApartWrong : ChangeSpec := { name := "fnManApart", fn := fun _ => fun
  | [d] => { results := [.lit (.bool false)], args := [d] }
  | _ => none }
def FnManApartWrongFalsely : Prop := fnManApartRow.holds Try.pinned (OpenSpec.ofChange fnManApartWrong)

/-- 'laws.FnExactManOk': WHATEVER THE INPUT: true; the input reads as it did. -/
def fnExactManOkSpec : ChangeSpec := { name := "fnExactManOk", fn := fun _ => fun
  | [d] => { results := [.lit (.bool true)], args := [d] }
  | _ => none }
def fnExactManOkRow : OpenClaim := { program := "ytfmhhjlhaklljaa", sum := "1e53e48a6fecfe6923d8f7c9b77a541b18bf68f4ed2f22c1e5d7769f4ab68f2e", func := "loop.example/g00503/laws.FnExactManOk", spec := "fnExactManOk", apart := false }
def FnExactManOkSaid : Prop := fnExactManOkRow.holds Try.pinned (OpenSpec.ofChange fnExactManOkSpec)

/-- ITS FALSE NEIGHBOUR: 'it returns false'. Refute it at one input. -/
def fnExactManOkWrong : ChangeSpec := { name := "fnExactManOk", fn := fun _ => fun
  | [d] => { results := [.lit (.bool false)], args := [d] }
  | _ => none }
def FnExactManOkWrongFalsely : Prop := fnExactManOkRow.holds Try.pinned (OpenSpec.ofChange fnExactManOkWrong)

/-- 'laws.FnSets': WHATEVER THE INPUT: true; the input reads as it did. -/
def fnSetsSpec : ChangeSpec := { name := "fnSets", fn := fun _ => fun
  | [d] => { results := [.lit (.bool true)], args := [d] }
  | _ => none }
def fnSetsRow : OpenClaim := { program := "ytfmhhjlhaklljaa", sum := "1e53e48a6fecfe6923d8f7c9b77a541b18bf68f4ed2f22c1e5d7769f4ab68f2e", func := "loop.example/g00503/laws.FnSets", spec := "fnSets", apart := false }
def FnSetsSaid : Prop := fnSetsRow.holds Try.pinned (OpenSpec.ofChange fnSetsSpec)

/-- ITS FALSE NEIGHBOUR: 'it returns false'. Refute it at one input. -/
def fnSetsWrong : ChangeSpec := { name := "fnSets", fn := fun _ => fun
  | [d] => { results := [.lit (.bool false)], args := [d] }
  | _ => none }
def FnSetsWrongFalsely : Prop := fnSetsRow.holds Try.pinned (OpenSpec.ofChange fnSetsWrong)

/-- 'laws.FnExactManOf': WHATEVER THE INPUT: true; the input reads as it did. -/
def fnExactManOfSpec : ChangeSpec := { name := "fnExactManOf", fn := fun _ => fun
  | [d1, d2, d3] => { results := [.lit (.bool true)], args := [d1, d2, d3] }
  | _ => none }
def fnExactManOfRow : OpenClaim := { program := "ytfmhhjlhaklljaa", sum := "1e53e48a6fecfe6923d8f7c9b77a541b18bf68f4ed2f22c1e5d7769f4ab68f2e", func := "loop.example/g00503/laws.FnExactManOf", spec := "fnExactManOf", apart := false }
def FnExactManOfSaid : Prop := fnExactManOfRow.holds Try.pinned (OpenSpec.ofChange fnExactManOfSpec)

/-- ITS FALSE NEIGHBOUR: 'it returns false'. Refute it at one input. -/
def fnExactManOfWrong : ChangeSpec := { name := "fnExactManOf", fn := fun _ => fun
  | [d1, d2, d3] => { results := [.lit (.bool false)], args := [d1, d2, d3] }
  | _ => none }
def FnExactManOfWrongFalsely : Prop := fnExactManOfRow.holds Try.pinned (OpenSpec.ofChange fnExactManOfWrong)

/-- 'laws.FnExactTells': WHATEVER THE INPUT: true; the input reads as it did. -/
def fnExactTellsSpec : ChangeSpec := { name := "fnExactTells", fn := fun _ => fun
  | [d1, d2] => { results := [.lit (.bool true)], args := [d1, d2] }
  | _ => none }
def fnExactTellsRow : OpenClaim := { program := "ytfmhhjlhaklljaa", sum := "1e53e48a6fecfe6923d8f7c9b77a541b18bf68f4ed2f22c1e5d7769f4ab68f2e", func := "loop.example/g00503/laws.FnExactTells", spec := "fnExactTells", apart := false }
def FnExactTellsSaid : Prop := fnExactTellsRow.holds Try.pinned (OpenSpec.ofChange fnExactTellsSpec)

/-- ITS FALSE NEIGHBOUR: 'it returns false'. Refute it at one input. -/
def fnExactTellsWrong : ChangeSpec := { name := "fnExactTells", fn := fun _ => fun
  | [d1, d2] => { results := [.lit (.bool false)], args := [d1, d2] }
  | _ => none }
def FnExactTellsWrongFalsely : Prop := fnExactTellsRow.holds Try.pinned (OpenSpec.ofChange fnExactTellsWrong)

/-- 'laws.FnBlocks': WHATEVER THE INPUT: true; the input reads as it did. -/
def fnBlocksSpec : ChangeSpec := { name := "fnBlocks", fn := fun _ => fun
  | [d] => { results := [.lit (.bool true)], args := [d] }
  | _ => none }
def fnBlocksRow : OpenClaim := { program := "ytfmhhjlhaklljaa", sum := "1e53e48a6fecfe6923d8f7c9b77a541b18bf68f4ed2f22c1e5d7769f4ab68f2e", func := "loop.example/g00503/laws.FnBlocks", spec := "fnBlocks", apart := false }
def FnBlocksSaid : Prop := fnBlocksRow.holds Try.pinned (OpenSpec.ofChange fnBlocksSpec)

/-- ITS FALSE NEIGHBOUR: 'it returns false'. Refute it at one input. -/
def fnBlocksWrong : ChangeSpec := { name := "fnBlocks", fn := fun _ => fun
  | [d] => { results := [.lit (.bool false)], args := [d] }
  | _ => none }
def FnBlocksWrongFalsely : Prop := fnBlocksRow.holds Try.pinned (OpenSpec.ofChange fnBlocksWrong)

/- THE SECOND FORM. 'bulk': how many values and letters a reading holds, each counted each time it is reached (what is shared counts as often as it is met; a slice's spare places count too). A statement '..UptoSaid' is the law's where the arguments, and the package variables that the reading takes, are together of bulk at most 1048576: NARROWER than '..Said'. Prove '..Said' where nothing that the law and all that it calls make is longer than what came in: it says more and counts as full. Else prove '..UptoSaid'. A law counts once. -/
mutual
def uptoBulk {H : Type} : DataW H → Nat
  | .lit (.string bytes) => bytes.length + 1
  | .lit _ => 1
  | .nil => 1
  | .ptr d => uptoBulk d + 1
  | .slice elems spare => uptoBulkAll elems + uptoBulkAll spare + 1
  | .agg parts => uptoBulkAll parts + 1
  | .iface _ d => uptoBulk d + 1
  | .map entries => uptoBulkEntries entries + 1
  | .held _ => 1
def uptoBulkAll {H : Type} : List (DataW H) → Nat
  | [] => 0
  | d :: r => uptoBulk d + uptoBulkAll r
def uptoBulkEntries {H : Type} : List (Lit × DataW H) → Nat
  | [] => 0
  | x :: r => uptoBulkEntry x + uptoBulkEntries r
def uptoBulkEntry {H : Type} : Lit × DataW H → Nat
  | (.string bytes, d) => bytes.length + uptoBulk d + 1
  | (_, d) => uptoBulk d + 1
 end
def uptoSmall : (H : Type) → List (DataW H) → Bool := fun _ ds => decide (uptoBulkAll ds ≤ 1048576)
def OpenSpec.upto (s : _root_.Go.ChangeSpec) : _root_.Go.OpenSpec := { _root_.Go.OpenSpec.ofChange s with cond := some uptoSmall }

/-- 'laws.FnWeaks', WHERE WHAT IT READS IS OF BULK AT MOST 1048576: true; the input reads as it did. -/
def fnWeaksUptoRow : OpenClaim := { program := "ytfmhhjlhaklljaa", sum := "1e53e48a6fecfe6923d8f7c9b77a541b18bf68f4ed2f22c1e5d7769f4ab68f2e", func := "loop.example/g00503/laws.FnWeaks", spec := "fnWeaks", apart := false, narrowed := true }
def FnWeaksUptoSaid : Prop := fnWeaksUptoRow.holds Try.pinned (OpenSpec.upto fnWeaksSpec)

/-- 'laws.FnExactSumsOf', WHERE WHAT IT READS IS OF BULK AT MOST 1048576: true; the input reads as it did. -/
def fnExactSumsOfUptoRow : OpenClaim := { program := "ytfmhhjlhaklljaa", sum := "1e53e48a6fecfe6923d8f7c9b77a541b18bf68f4ed2f22c1e5d7769f4ab68f2e", func := "loop.example/g00503/laws.FnExactSumsOf", spec := "fnExactSumsOf", apart := false, narrowed := true }
def FnExactSumsOfUptoSaid : Prop := fnExactSumsOfUptoRow.holds Try.pinned (OpenSpec.upto fnExactSumsOfSpec)

/-- 'laws.FnVars', WHERE WHAT IT READS IS OF BULK AT MOST 1048576: true; the input reads as it did. -/
def fnVarsUptoRow : OpenClaim := { program := "ytfmhhjlhaklljaa", sum := "1e53e48a6fecfe6923d8f7c9b77a541b18bf68f4ed2f22c1e5d7769f4ab68f2e", func := "loop.example/g00503/laws.FnVars", spec := "fnVars", apart := false, narrowed := true }
def FnVarsUptoSaid : Prop := fnVarsUptoRow.holds Try.pinned (OpenSpec.upto fnVarsSpec)

/-- 'laws.FnManApart', WHERE WHAT IT READS IS OF BULK AT MOST 1048576: true; the input reads as it did. -/
def fnManApartUptoRow : OpenClaim := { program := "ytfmhhjlhaklljaa", sum := "1e53e48a6fecfe6923d8f7c9b77a541b18bf68f4ed2f22c1e5d7769f4ab68f2e", func := "loop.example/g00503/laws.FnManApart", spec := "fnManApart", apart := false, narrowed := true }
def FnManApartUptoSaid : Prop := fnManApartUptoRow.holds Try.pinned (OpenSpec.upto fnManApartSpec)

/-- 'laws.FnExactManOk', WHERE WHAT IT READS IS OF BULK AT MOST 1048576: true; the input reads as it did. -/
def fnExactManOkUptoRow : OpenClaim := { program := "ytfmhhjlhaklljaa", sum := "1e53e48a6fecfe6923d8f7c9b77a541b18bf68f4ed2f22c1e5d7769f4ab68f2e", func := "loop.example/g00503/laws.FnExactManOk", spec := "fnExactManOk", apart := false, narrowed := true }
def FnExactManOkUptoSaid : Prop := fnExactManOkUptoRow.holds Try.pinned (OpenSpec.upto fnExactManOkSpec)

/-- 'laws.FnSets', WHERE WHAT IT READS IS OF BULK AT MOST 1048576: true; the input reads as it did. -/
def fnSetsUptoRow : OpenClaim := { program := "ytfmhhjlhaklljaa", sum := "1e53e48a6fecfe6923d8f7c9b77a541b18bf68f4ed2f22c1e5d7769f4ab68f2e", func := "loop.example/g00503/laws.FnSets", spec := "fnSets", apart := false, narrowed := true }
def FnSetsUptoSaid : Prop := fnSetsUptoRow.holds Try.pinned (OpenSpec.upto fnSetsSpec)

/-- 'laws.FnExactManOf', WHERE WHAT IT READS IS OF BULK AT MOST 1048576: true; the input reads as it did. -/
def fnExactManOfUptoRow : OpenClaim := { program := "ytfmhhjlhaklljaa", sum := "1e53e48a6fecfe6923d8f7c9b77a541b18bf68f4ed2f22c1e5d7769f4ab68f2e", func := "loop.example/g00503/laws.FnExactManOf", spec := "fnExactManOf", apart := false, narrowed := true }
def FnExactManOfUptoSaid : Prop := fnExactManOfUptoRow.holds Try.pinned (OpenSpec.upto fnExactManOfSpec)

/-- 'laws.FnExactTells', WHERE WHAT IT READS IS OF BULK AT MOST 1048576: true; the input reads as it did. -/
def fnExactTellsUptoRow : OpenClaim := { program := "ytfmhhjlhaklljaa", sum := "1e53e48a6fecfe6923d8f7c9b77a541b18bf68f4ed2f22c1e5d7769f4ab68f2e", func := "loop.example/g00503/laws.FnExactTells", spec := "fnExactTells", apart := false, narrowed := true }
def FnExactTellsUptoSaid : Prop := fnExactTellsUptoRow.holds Try.pinned (OpenSpec.upto fnExactTellsSpec)

/-- 'laws.FnBlocks', WHERE WHAT IT READS IS OF BULK AT MOST 1048576: true; the input reads as it did. -/
def fnBlocksUptoRow : OpenClaim := { program := "ytfmhhjlhaklljaa", sum := "1e53e48a6fecfe6923d8f7c9b77a541b18bf68f4ed2f22c1e5d7769f4ab68f2e", func := "loop.example/g00503/laws.FnBlocks", spec := "fnBlocks", apart := false, narrowed := true }
def FnBlocksUptoSaid : Prop := fnBlocksUptoRow.holds Try.pinned (OpenSpec.upto fnBlocksSpec)

end Rows
end Go.Proofs.Ytfmhhjlhaklljaa
