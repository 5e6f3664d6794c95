/-
  No cell of these rows narrows 'for every input' (looked for: loops, veiled, ifaces, maps, wideKeys, modest, calm, conditions, laid).
  DERIVED. THE GIVEN ROWS OF THIS SEAT. 14 by the template 'for every input the law returns true; each argument reads behind the call as it read before'; 0 by the template 'total and deterministic' (their statements: YtmofpnonodkmnaaTotals.lean).
  GIVEN WITH THE SEED: the statements are not yours to turn. If you find one false, say at which input.
  Laid BY PROGRAM, IN A SANDBOX (cutbox-rows.mjs): the forced cells as the released guide's own fill.sh prints them over the translation 24b21b4fabe234e3… (all of the seat's roots in one cut). By AI agents, Wed Nov 11 2026. No macro, syntax, notation, axiom, sorry.
-/
import Derived.Test.YtmofpnonodkmnaaChecked
import GoSem.Claim
import GoSem.ClaimJoined
import GoSem.ClaimMapViews
import Derived.JoinedTies
import Derived.KernelRfl
namespace Go.Proofs.Ytmofpnonodkmnaa
/- THE CELL 'sum', in the pinned program and in every row, IS THE sha256 OF THE DUMP (.gsa) THAT YtmofpnonodkmnaaProg.lean LOADS. Nothing in Lean hashes anything: it is a label: what it is worth is what the hold of that sum in a sandbox is worth. -/
noncomputable def Try.pinned : Pinned := { name := "ytmofpnonodkmnaa", sum := "24b21b4fabe234e3520eafc75c12e462c2a5508af9dfb93270de287403f9deac", checked := Try.checked }
namespace Rows
def none {H : Type} : Left H := { results := [], args := [] }

/-- 'laws.FnExactConstants': WHATEVER THE INPUT: true; the input reads as it did. -/
def fnExactConstantsSpec : ChangeSpec := { name := "fnExactConstants", fn := fun _ => fun
  | [] => { results := [.lit (.bool true)], args := [] }
  | _ => none }
def fnExactConstantsRow : OpenClaim := { program := "ytmofpnonodkmnaa", sum := "24b21b4fabe234e3520eafc75c12e462c2a5508af9dfb93270de287403f9deac", func := "loop.example/g00503/laws.FnExactConstants", spec := "fnExactConstants", apart := false }
def FnExactConstantsSaid : Prop := fnExactConstantsRow.holds Try.pinned (OpenSpec.ofChange fnExactConstantsSpec)

/-- ITS FALSE NEIGHBOUR: 'it returns false'. Refute it at one input. -/
def fnExactConstantsWrong : ChangeSpec := { name := "fnExactConstants", fn := fun _ => fun
  | [] => { results := [.lit (.bool false)], args := [] }
  | _ => none }
def FnExactConstantsWrongFalsely : Prop := fnExactConstantsRow.holds Try.pinned (OpenSpec.ofChange fnExactConstantsWrong)

/-- 'laws.FnExactSetOk': WHATEVER THE INPUT: true; the input reads as it did. -/
def fnExactSetOkSpec : ChangeSpec := { name := "fnExactSetOk", fn := fun _ => fun
  | [d] => { results := [.lit (.bool true)], args := [d] }
  | _ => none }
def fnExactSetOkRow : OpenClaim := { program := "ytmofpnonodkmnaa", sum := "24b21b4fabe234e3520eafc75c12e462c2a5508af9dfb93270de287403f9deac", func := "loop.example/g00503/laws.FnExactSetOk", spec := "fnExactSetOk", apart := false }
def FnExactSetOkSaid : Prop := fnExactSetOkRow.holds Try.pinned (OpenSpec.ofChange fnExactSetOkSpec)

/-- ITS FALSE NEIGHBOUR: 'it returns false'. Refute it at one input. -/
def fnExactSetOkWrong : ChangeSpec := { name := "fnExactSetOk", fn := fun _ => fun
  | [d] => { results := [.lit (.bool false)], args := [d] }
  | _ => none }
def FnExactSetOkWrongFalsely : Prop := fnExactSetOkRow.holds Try.pinned (OpenSpec.ofChange fnExactSetOkWrong)

/-- 'laws.FnExactSizeOk': WHATEVER THE INPUT: true; the input reads as it did. -/
def fnExactSizeOkSpec : ChangeSpec := { name := "fnExactSizeOk", fn := fun _ => fun
  | [d1, d2] => { results := [.lit (.bool true)], args := [d1, d2] }
  | _ => none }
def fnExactSizeOkRow : OpenClaim := { program := "ytmofpnonodkmnaa", sum := "24b21b4fabe234e3520eafc75c12e462c2a5508af9dfb93270de287403f9deac", func := "loop.example/g00503/laws.FnExactSizeOk", spec := "fnExactSizeOk", apart := false }
def FnExactSizeOkSaid : Prop := fnExactSizeOkRow.holds Try.pinned (OpenSpec.ofChange fnExactSizeOkSpec)

/-- ITS FALSE NEIGHBOUR: 'it returns false'. Refute it at one input. -/
def fnExactSizeOkWrong : ChangeSpec := { name := "fnExactSizeOk", fn := fun _ => fun
  | [d1, d2] => { results := [.lit (.bool false)], args := [d1, d2] }
  | _ => none }
def FnExactSizeOkWrongFalsely : Prop := fnExactSizeOkRow.holds Try.pinned (OpenSpec.ofChange fnExactSizeOkWrong)

/-- 'laws.FnExactLeast': WHATEVER THE INPUT: true; the input reads as it did. -/
def fnExactLeastSpec : ChangeSpec := { name := "fnExactLeast", fn := fun _ => fun
  | [d1, d2] => { results := [.lit (.bool true)], args := [d1, d2] }
  | _ => none }
def fnExactLeastRow : OpenClaim := { program := "ytmofpnonodkmnaa", sum := "24b21b4fabe234e3520eafc75c12e462c2a5508af9dfb93270de287403f9deac", func := "loop.example/g00503/laws.FnExactLeast", spec := "fnExactLeast", apart := false }
def FnExactLeastSaid : Prop := fnExactLeastRow.holds Try.pinned (OpenSpec.ofChange fnExactLeastSpec)

/-- ITS FALSE NEIGHBOUR: 'it returns false'. Refute it at one input. -/
def fnExactLeastWrong : ChangeSpec := { name := "fnExactLeast", fn := fun _ => fun
  | [d1, d2] => { results := [.lit (.bool false)], args := [d1, d2] }
  | _ => none }
def FnExactLeastWrongFalsely : Prop := fnExactLeastRow.holds Try.pinned (OpenSpec.ofChange fnExactLeastWrong)

/-- 'laws.FnExactMost': WHATEVER THE INPUT: true; the input reads as it did. -/
def fnExactMostSpec : ChangeSpec := { name := "fnExactMost", fn := fun _ => fun
  | [d1, d2] => { results := [.lit (.bool true)], args := [d1, d2] }
  | _ => none }
def fnExactMostRow : OpenClaim := { program := "ytmofpnonodkmnaa", sum := "24b21b4fabe234e3520eafc75c12e462c2a5508af9dfb93270de287403f9deac", func := "loop.example/g00503/laws.FnExactMost", spec := "fnExactMost", apart := false }
def FnExactMostSaid : Prop := fnExactMostRow.holds Try.pinned (OpenSpec.ofChange fnExactMostSpec)

/-- ITS FALSE NEIGHBOUR: 'it returns false'. Refute it at one input. -/
def fnExactMostWrong : ChangeSpec := { name := "fnExactMost", fn := fun _ => fun
  | [d1, d2] => { results := [.lit (.bool false)], args := [d1, d2] }
  | _ => none }
def FnExactMostWrongFalsely : Prop := fnExactMostRow.holds Try.pinned (OpenSpec.ofChange fnExactMostWrong)

/-- 'laws.FnExactInSet': WHATEVER THE INPUT: true; the input reads as it did. -/
def fnExactInSetSpec : ChangeSpec := { name := "fnExactInSet", fn := fun _ => fun
  | [d1, d2] => { results := [.lit (.bool true)], args := [d1, d2] }
  | _ => none }
def fnExactInSetRow : OpenClaim := { program := "ytmofpnonodkmnaa", sum := "24b21b4fabe234e3520eafc75c12e462c2a5508af9dfb93270de287403f9deac", func := "loop.example/g00503/laws.FnExactInSet", spec := "fnExactInSet", apart := false }
def FnExactInSetSaid : Prop := fnExactInSetRow.holds Try.pinned (OpenSpec.ofChange fnExactInSetSpec)

/-- ITS FALSE NEIGHBOUR: 'it returns false'. Refute it at one input. -/
def fnExactInSetWrong : ChangeSpec := { name := "fnExactInSet", fn := fun _ => fun
  | [d1, d2] => { results := [.lit (.bool false)], args := [d1, d2] }
  | _ => none }
def FnExactInSetWrongFalsely : Prop := fnExactInSetRow.holds Try.pinned (OpenSpec.ofChange fnExactInSetWrong)

/-- 'laws.FnExactCeilDiv': WHATEVER THE INPUT: true; the input reads as it did. -/
def fnExactCeilDivSpec : ChangeSpec := { name := "fnExactCeilDiv", fn := fun _ => fun
  | [d1, d2] => { results := [.lit (.bool true)], args := [d1, d2] }
  | _ => none }
def fnExactCeilDivRow : OpenClaim := { program := "ytmofpnonodkmnaa", sum := "24b21b4fabe234e3520eafc75c12e462c2a5508af9dfb93270de287403f9deac", func := "loop.example/g00503/laws.FnExactCeilDiv", spec := "fnExactCeilDiv", apart := false }
def FnExactCeilDivSaid : Prop := fnExactCeilDivRow.holds Try.pinned (OpenSpec.ofChange fnExactCeilDivSpec)

/-- ITS FALSE NEIGHBOUR: 'it returns false'. Refute it at one input. -/
def fnExactCeilDivWrong : ChangeSpec := { name := "fnExactCeilDiv", fn := fun _ => fun
  | [d1, d2] => { results := [.lit (.bool false)], args := [d1, d2] }
  | _ => none }
def FnExactCeilDivWrongFalsely : Prop := fnExactCeilDivRow.holds Try.pinned (OpenSpec.ofChange fnExactCeilDivWrong)

/-- 'laws.FnExactFullSet': WHATEVER THE INPUT: true; the input reads as it did. -/
def fnExactFullSetSpec : ChangeSpec := { name := "fnExactFullSet", fn := fun _ => fun
  | [d] => { results := [.lit (.bool true)], args := [d] }
  | _ => none }
def fnExactFullSetRow : OpenClaim := { program := "ytmofpnonodkmnaa", sum := "24b21b4fabe234e3520eafc75c12e462c2a5508af9dfb93270de287403f9deac", func := "loop.example/g00503/laws.FnExactFullSet", spec := "fnExactFullSet", apart := false }
def FnExactFullSetSaid : Prop := fnExactFullSetRow.holds Try.pinned (OpenSpec.ofChange fnExactFullSetSpec)

/-- ITS FALSE NEIGHBOUR: 'it returns false'. Refute it at one input. -/
def fnExactFullSetWrong : ChangeSpec := { name := "fnExactFullSet", fn := fun _ => fun
  | [d] => { results := [.lit (.bool false)], args := [d] }
  | _ => none }
def FnExactFullSetWrongFalsely : Prop := fnExactFullSetRow.holds Try.pinned (OpenSpec.ofChange fnExactFullSetWrong)

/-- 'laws.FnExactWrap': WHATEVER THE INPUT: true; the input reads as it did. -/
def fnExactWrapSpec : ChangeSpec := { name := "fnExactWrap", fn := fun _ => fun
  | [d1, d2] => { results := [.lit (.bool true)], args := [d1, d2] }
  | _ => none }
def fnExactWrapRow : OpenClaim := { program := "ytmofpnonodkmnaa", sum := "24b21b4fabe234e3520eafc75c12e462c2a5508af9dfb93270de287403f9deac", func := "loop.example/g00503/laws.FnExactWrap", spec := "fnExactWrap", apart := false }
def FnExactWrapSaid : Prop := fnExactWrapRow.holds Try.pinned (OpenSpec.ofChange fnExactWrapSpec)

/-- ITS FALSE NEIGHBOUR: 'it returns false'. Refute it at one input. -/
def fnExactWrapWrong : ChangeSpec := { name := "fnExactWrap", fn := fun _ => fun
  | [d1, d2] => { results := [.lit (.bool false)], args := [d1, d2] }
  | _ => none }
def FnExactWrapWrongFalsely : Prop := fnExactWrapRow.holds Try.pinned (OpenSpec.ofChange fnExactWrapWrong)

/-- 'laws.FnExactUnion': WHATEVER THE INPUT: true; the input reads as it did. -/
def fnExactUnionSpec : ChangeSpec := { name := "fnExactUnion", fn := fun _ => fun
  | [d1, d2] => { results := [.lit (.bool true)], args := [d1, d2] }
  | _ => none }
def fnExactUnionRow : OpenClaim := { program := "ytmofpnonodkmnaa", sum := "24b21b4fabe234e3520eafc75c12e462c2a5508af9dfb93270de287403f9deac", func := "loop.example/g00503/laws.FnExactUnion", spec := "fnExactUnion", apart := false }
def FnExactUnionSaid : Prop := fnExactUnionRow.holds Try.pinned (OpenSpec.ofChange fnExactUnionSpec)

/-- ITS FALSE NEIGHBOUR: 'it returns false'. Refute it at one input. -/
def fnExactUnionWrong : ChangeSpec := { name := "fnExactUnion", fn := fun _ => fun
  | [d1, d2] => { results := [.lit (.bool false)], args := [d1, d2] }
  | _ => none }
def FnExactUnionWrongFalsely : Prop := fnExactUnionRow.holds Try.pinned (OpenSpec.ofChange fnExactUnionWrong)

/-- 'laws.FnExactWeakHalves': WHATEVER THE INPUT: true; the input reads as it did. -/
def fnExactWeakHalvesSpec : ChangeSpec := { name := "fnExactWeakHalves", fn := fun _ => fun
  | [d] => { results := [.lit (.bool true)], args := [d] }
  | _ => none }
def fnExactWeakHalvesRow : OpenClaim := { program := "ytmofpnonodkmnaa", sum := "24b21b4fabe234e3520eafc75c12e462c2a5508af9dfb93270de287403f9deac", func := "loop.example/g00503/laws.FnExactWeakHalves", spec := "fnExactWeakHalves", apart := false }
def FnExactWeakHalvesSaid : Prop := fnExactWeakHalvesRow.holds Try.pinned (OpenSpec.ofChange fnExactWeakHalvesSpec)

/-- ITS FALSE NEIGHBOUR: 'it returns false'. Refute it at one input. -/
def fnExactWeakHalvesWrong : ChangeSpec := { name := "fnExactWeakHalves", fn := fun _ => fun
  | [d] => { results := [.lit (.bool false)], args := [d] }
  | _ => none }
def FnExactWeakHalvesWrongFalsely : Prop := fnExactWeakHalvesRow.holds Try.pinned (OpenSpec.ofChange fnExactWeakHalvesWrong)

/-- 'laws.FnExactWithout': WHATEVER THE INPUT: true; the input reads as it did. -/
def fnExactWithoutSpec : ChangeSpec := { name := "fnExactWithout", fn := fun _ => fun
  | [d1, d2] => { results := [.lit (.bool true)], args := [d1, d2] }
  | _ => none }
def fnExactWithoutRow : OpenClaim := { program := "ytmofpnonodkmnaa", sum := "24b21b4fabe234e3520eafc75c12e462c2a5508af9dfb93270de287403f9deac", func := "loop.example/g00503/laws.FnExactWithout", spec := "fnExactWithout", apart := false }
def FnExactWithoutSaid : Prop := fnExactWithoutRow.holds Try.pinned (OpenSpec.ofChange fnExactWithoutSpec)

/-- ITS FALSE NEIGHBOUR: 'it returns false'. Refute it at one input. -/
def fnExactWithoutWrong : ChangeSpec := { name := "fnExactWithout", fn := fun _ => fun
  | [d1, d2] => { results := [.lit (.bool false)], args := [d1, d2] }
  | _ => none }
def FnExactWithoutWrongFalsely : Prop := fnExactWithoutRow.holds Try.pinned (OpenSpec.ofChange fnExactWithoutWrong)

/-- 'laws.FnExactWithPart': WHATEVER THE INPUT: true; the input reads as it did. -/
def fnExactWithPartSpec : ChangeSpec := { name := "fnExactWithPart", fn := fun _ => fun
  | [d1, d2] => { results := [.lit (.bool true)], args := [d1, d2] }
  | _ => none }
def fnExactWithPartRow : OpenClaim := { program := "ytmofpnonodkmnaa", sum := "24b21b4fabe234e3520eafc75c12e462c2a5508af9dfb93270de287403f9deac", func := "loop.example/g00503/laws.FnExactWithPart", spec := "fnExactWithPart", apart := false }
def FnExactWithPartSaid : Prop := fnExactWithPartRow.holds Try.pinned (OpenSpec.ofChange fnExactWithPartSpec)

/-- ITS FALSE NEIGHBOUR: 'it returns false'. Refute it at one input. -/
def fnExactWithPartWrong : ChangeSpec := { name := "fnExactWithPart", fn := fun _ => fun
  | [d1, d2] => { results := [.lit (.bool false)], args := [d1, d2] }
  | _ => none }
def FnExactWithPartWrongFalsely : Prop := fnExactWithPartRow.holds Try.pinned (OpenSpec.ofChange fnExactWithPartWrong)

/-- 'laws.FnExactWithoutPart': WHATEVER THE INPUT: true; the input reads as it did. -/
def fnExactWithoutPartSpec : ChangeSpec := { name := "fnExactWithoutPart", fn := fun _ => fun
  | [d1, d2] => { results := [.lit (.bool true)], args := [d1, d2] }
  | _ => none }
def fnExactWithoutPartRow : OpenClaim := { program := "ytmofpnonodkmnaa", sum := "24b21b4fabe234e3520eafc75c12e462c2a5508af9dfb93270de287403f9deac", func := "loop.example/g00503/laws.FnExactWithoutPart", spec := "fnExactWithoutPart", apart := false }
def FnExactWithoutPartSaid : Prop := fnExactWithoutPartRow.holds Try.pinned (OpenSpec.ofChange fnExactWithoutPartSpec)

/-- ITS FALSE NEIGHBOUR: 'it returns false'. Refute it at one input. -/
def fnExactWithoutPartWrong : ChangeSpec := { name := "fnExactWithoutPart", fn := fun _ => fun
  | [d1, d2] => { results := [.lit (.bool false)], args := [d1, d2] }
  | _ => none }
def FnExactWithoutPartWrongFalsely : Prop := fnExactWithoutPartRow.holds Try.pinned (OpenSpec.ofChange fnExactWithoutPartWrong)

/- THE SECOND FORM. 'bulk': how many values and letters a reading holds, each counted each time it is reached (what is shared counts as often as it is met; a slice's spare places count too). A statement '..UptoSaid' is the law's where the arguments, and the package variables that the reading takes, are together of bulk at most 1048576: NARROWER than '..Said'. Prove '..Said' where nothing that the law and all that it calls make is longer than what came in: it says more and counts as full. Else prove '..UptoSaid'. A law counts once. -/
mutual
def uptoBulk {H : Type} : DataW H → Nat
  | .lit (.string bytes) => bytes.length + 1
  | .lit _ => 1
  | .nil => 1
  | .ptr d => uptoBulk d + 1
  | .slice elems spare => uptoBulkAll elems + uptoBulkAll spare + 1
  | .agg parts => uptoBulkAll parts + 1
  | .iface _ d => uptoBulk d + 1
  | .map entries => uptoBulkEntries entries + 1
  | .held _ => 1
def uptoBulkAll {H : Type} : List (DataW H) → Nat
  | [] => 0
  | d :: r => uptoBulk d + uptoBulkAll r
def uptoBulkEntries {H : Type} : List (Lit × DataW H) → Nat
  | [] => 0
  | x :: r => uptoBulkEntry x + uptoBulkEntries r
def uptoBulkEntry {H : Type} : Lit × DataW H → Nat
  | (.string bytes, d) => bytes.length + uptoBulk d + 1
  | (_, d) => uptoBulk d + 1
 end
def uptoSmall : (H : Type) → List (DataW H) → Bool := fun _ ds => decide (uptoBulkAll ds ≤ 1048576)
def OpenSpec.upto (s : _root_.Go.ChangeSpec) : _root_.Go.OpenSpec := { _root_.Go.OpenSpec.ofChange s with cond := some uptoSmall }

/-- 'laws.FnExactConstants', WHERE WHAT IT READS IS OF BULK AT MOST 1048576: true; the input reads as it did. -/
def fnExactConstantsUptoRow : OpenClaim := { program := "ytmofpnonodkmnaa", sum := "24b21b4fabe234e3520eafc75c12e462c2a5508af9dfb93270de287403f9deac", func := "loop.example/g00503/laws.FnExactConstants", spec := "fnExactConstants", apart := false, narrowed := true }
def FnExactConstantsUptoSaid : Prop := fnExactConstantsUptoRow.holds Try.pinned (OpenSpec.upto fnExactConstantsSpec)

/-- 'laws.FnExactSetOk', WHERE WHAT IT READS IS OF BULK AT MOST 1048576: true; the input reads as it did. -/
def fnExactSetOkUptoRow : OpenClaim := { program := "ytmofpnonodkmnaa", sum := "24b21b4fabe234e3520eafc75c12e462c2a5508af9dfb93270de287403f9deac", func := "loop.example/g00503/laws.FnExactSetOk", spec := "fnExactSetOk", apart := false, narrowed := true }
def FnExactSetOkUptoSaid : Prop := fnExactSetOkUptoRow.holds Try.pinned (OpenSpec.upto fnExactSetOkSpec)

/-- 'laws.FnExactSizeOk', WHERE WHAT IT READS IS OF BULK AT MOST 1048576: true; the input reads as it did. -/
def fnExactSizeOkUptoRow : OpenClaim := { program := "ytmofpnonodkmnaa", sum := "24b21b4fabe234e3520eafc75c12e462c2a5508af9dfb93270de287403f9deac", func := "loop.example/g00503/laws.FnExactSizeOk", spec := "fnExactSizeOk", apart := false, narrowed := true }
def FnExactSizeOkUptoSaid : Prop := fnExactSizeOkUptoRow.holds Try.pinned (OpenSpec.upto fnExactSizeOkSpec)

/-- 'laws.FnExactLeast', WHERE WHAT IT READS IS OF BULK AT MOST 1048576: true; the input reads as it did. -/
def fnExactLeastUptoRow : OpenClaim := { program := "ytmofpnonodkmnaa", sum := "24b21b4fabe234e3520eafc75c12e462c2a5508af9dfb93270de287403f9deac", func := "loop.example/g00503/laws.FnExactLeast", spec := "fnExactLeast", apart := false, narrowed := true }
def FnExactLeastUptoSaid : Prop := fnExactLeastUptoRow.holds Try.pinned (OpenSpec.upto fnExactLeastSpec)

/-- 'laws.FnExactMost', WHERE WHAT IT READS IS OF BULK AT MOST 1048576: true; the input reads as it did. -/
def fnExactMostUptoRow : OpenClaim := { program := "ytmofpnonodkmnaa", sum := "24b21b4fabe234e3520eafc75c12e462c2a5508af9dfb93270de287403f9deac", func := "loop.example/g00503/laws.FnExactMost", spec := "fnExactMost", apart := false, narrowed := true }
def FnExactMostUptoSaid : Prop := fnExactMostUptoRow.holds Try.pinned (OpenSpec.upto fnExactMostSpec)

/-- 'laws.FnExactInSet', WHERE WHAT IT READS IS OF BULK AT MOST 1048576: true; the input reads as it did. -/
def fnExactInSetUptoRow : OpenClaim := { program := "ytmofpnonodkmnaa", sum := "24b21b4fabe234e3520eafc75c12e462c2a5508af9dfb93270de287403f9deac", func := "loop.example/g00503/laws.FnExactInSet", spec := "fnExactInSet", apart := false, narrowed := true }
def FnExactInSetUptoSaid : Prop := fnExactInSetUptoRow.holds Try.pinned (OpenSpec.upto fnExactInSetSpec)

/-- 'laws.FnExactCeilDiv', WHERE WHAT IT READS IS OF BULK AT MOST 1048576: true; the input reads as it did. -/
def fnExactCeilDivUptoRow : OpenClaim := { program := "ytmofpnonodkmnaa", sum := "24b21b4fabe234e3520eafc75c12e462c2a5508af9dfb93270de287403f9deac", func := "loop.example/g00503/laws.FnExactCeilDiv", spec := "fnExactCeilDiv", apart := false, narrowed := true }
def FnExactCeilDivUptoSaid : Prop := fnExactCeilDivUptoRow.holds Try.pinned (OpenSpec.upto fnExactCeilDivSpec)

/-- 'laws.FnExactFullSet', WHERE WHAT IT READS IS OF BULK AT MOST 1048576: true; the input reads as it did. -/
def fnExactFullSetUptoRow : OpenClaim := { program := "ytmofpnonodkmnaa", sum := "24b21b4fabe234e3520eafc75c12e462c2a5508af9dfb93270de287403f9deac", func := "loop.example/g00503/laws.FnExactFullSet", spec := "fnExactFullSet", apart := false, narrowed := true }
def FnExactFullSetUptoSaid : Prop := fnExactFullSetUptoRow.holds Try.pinned (OpenSpec.upto fnExactFullSetSpec)

/-- 'laws.FnExactWrap', WHERE WHAT IT READS IS OF BULK AT MOST 1048576: true; the input reads as it did. -/
def fnExactWrapUptoRow : OpenClaim := { program := "ytmofpnonodkmnaa", sum := "24b21b4fabe234e3520eafc75c12e462c2a5508af9dfb93270de287403f9deac", func := "loop.example/g00503/laws.FnExactWrap", spec := "fnExactWrap", apart := false, narrowed := true }
def FnExactWrapUptoSaid : Prop := fnExactWrapUptoRow.holds Try.pinned (OpenSpec.upto fnExactWrapSpec)

/-- 'laws.FnExactUnion', WHERE WHAT IT READS IS OF BULK AT MOST 1048576: true; the input reads as it did. -/
def fnExactUnionUptoRow : OpenClaim := { program := "ytmofpnonodkmnaa", sum := "24b21b4fabe234e3520eafc75c12e462c2a5508af9dfb93270de287403f9deac", func := "loop.example/g00503/laws.FnExactUnion", spec := "fnExactUnion", apart := false, narrowed := true }
def FnExactUnionUptoSaid : Prop := fnExactUnionUptoRow.holds Try.pinned (OpenSpec.upto fnExactUnionSpec)

/-- 'laws.FnExactWeakHalves', WHERE WHAT IT READS IS OF BULK AT MOST 1048576: true; the input reads as it did. -/
def fnExactWeakHalvesUptoRow : OpenClaim := { program := "ytmofpnonodkmnaa", sum := "24b21b4fabe234e3520eafc75c12e462c2a5508af9dfb93270de287403f9deac", func := "loop.example/g00503/laws.FnExactWeakHalves", spec := "fnExactWeakHalves", apart := false, narrowed := true }
def FnExactWeakHalvesUptoSaid : Prop := fnExactWeakHalvesUptoRow.holds Try.pinned (OpenSpec.upto fnExactWeakHalvesSpec)

/-- 'laws.FnExactWithout', WHERE WHAT IT READS IS OF BULK AT MOST 1048576: true; the input reads as it did. -/
def fnExactWithoutUptoRow : OpenClaim := { program := "ytmofpnonodkmnaa", sum := "24b21b4fabe234e3520eafc75c12e462c2a5508af9dfb93270de287403f9deac", func := "loop.example/g00503/laws.FnExactWithout", spec := "fnExactWithout", apart := false, narrowed := true }
def FnExactWithoutUptoSaid : Prop := fnExactWithoutUptoRow.holds Try.pinned (OpenSpec.upto fnExactWithoutSpec)

/-- 'laws.FnExactWithPart', WHERE WHAT IT READS IS OF BULK AT MOST 1048576: true; the input reads as it did. -/
def fnExactWithPartUptoRow : OpenClaim := { program := "ytmofpnonodkmnaa", sum := "24b21b4fabe234e3520eafc75c12e462c2a5508af9dfb93270de287403f9deac", func := "loop.example/g00503/laws.FnExactWithPart", spec := "fnExactWithPart", apart := false, narrowed := true }
def FnExactWithPartUptoSaid : Prop := fnExactWithPartUptoRow.holds Try.pinned (OpenSpec.upto fnExactWithPartSpec)

/-- 'laws.FnExactWithoutPart', WHERE WHAT IT READS IS OF BULK AT MOST 1048576: true; the input reads as it did. -/
def fnExactWithoutPartUptoRow : OpenClaim := { program := "ytmofpnonodkmnaa", sum := "24b21b4fabe234e3520eafc75c12e462c2a5508af9dfb93270de287403f9deac", func := "loop.example/g00503/laws.FnExactWithoutPart", spec := "fnExactWithoutPart", apart := false, narrowed := true }
def FnExactWithoutPartUptoSaid : Prop := fnExactWithoutPartUptoRow.holds Try.pinned (OpenSpec.upto fnExactWithoutPartSpec)

end Rows
end Go.Proofs.Ytmofpnonodkmnaa
