/-
  No cell of these rows narrows 'for every input' (looked for: loops, veiled, ifaces, maps, wideKeys, modest, calm, conditions, laid).
  DERIVED. THE GIVEN ROWS OF THIS SEAT. 12 by the template 'for every input the law returns true; each argument reads behind the call as it read before'; 0 by the template 'total and deterministic' (their statements: YtbhpnckebecffaaTotals.lean).
  GIVEN WITH THE SEED: the statements are not yours to turn. If you find one false, say at which input.
  Laid BY PROGRAM, IN A SANDBOX (cutbox-rows.mjs): the forced cells as the released guide's own fill.sh prints them over the translation 0cc608507a809e9e… (all of the seat's roots in one cut). By AI agents, Wed Nov 11 2026. No macro, syntax, notation, axiom, sorry.
-/
import Derived.Test.YtbhpnckebecffaaChecked
import GoSem.Claim
import GoSem.ClaimJoined
import GoSem.ClaimMapViews
import Derived.JoinedTies
import Derived.KernelRfl
namespace Go.Proofs.Ytbhpnckebecffaa
/- THE CELL 'sum', in the pinned program and in every row, IS THE sha256 OF THE DUMP (.gsa) THAT YtbhpnckebecffaaProg.lean LOADS. Nothing in Lean hashes anything: it is a label: what it is worth is what the hold of that sum in a sandbox is worth. -/
noncomputable def Try.pinned : Pinned := { name := "ytbhpnckebecffaa", sum := "0cc608507a809e9e45a8c9e5af7e144ee235e6975640dc968a2d5c32c6850980", checked := Try.checked }
namespace Rows
def none {H : Type} : Left H := { results := [], args := [] }

/-- 'laws.FnExactPutVar': WHATEVER THE INPUT: true; the input reads as it did. -/
def fnExactPutVarSpec : ChangeSpec := { name := "fnExactPutVar", fn := fun _ => fun
  | [d1, d2] => { results := [.lit (.bool true)], args := [d1, d2] }
  | _ => none }
def fnExactPutVarRow : OpenClaim := { program := "ytbhpnckebecffaa", sum := "0cc608507a809e9e45a8c9e5af7e144ee235e6975640dc968a2d5c32c6850980", func := "loop.example/g00503/laws.FnExactPutVar", spec := "fnExactPutVar", apart := false }
def FnExactPutVarSaid : Prop := fnExactPutVarRow.holds Try.pinned (OpenSpec.ofChange fnExactPutVarSpec)

/-- ITS FALSE NEIGHBOUR: 'it returns false'. Refute it at one input. -/
def fnExactPutVarWrong : ChangeSpec := { name := "fnExactPutVar", fn := fun _ => fun
  | [d1, d2] => { results := [.lit (.bool false)], args := [d1, d2] }
  | _ => none }
def FnExactPutVarWrongFalsely : Prop := fnExactPutVarRow.holds Try.pinned (OpenSpec.ofChange fnExactPutVarWrong)

/-- 'laws.FnExactPutPart': WHATEVER THE INPUT: true; the input reads as it did. -/
def fnExactPutPartSpec : ChangeSpec := { name := "fnExactPutPart", fn := fun _ => fun
  | [d1, d2] => { results := [.lit (.bool true)], args := [d1, d2] }
  | _ => none }
def fnExactPutPartRow : OpenClaim := { program := "ytbhpnckebecffaa", sum := "0cc608507a809e9e45a8c9e5af7e144ee235e6975640dc968a2d5c32c6850980", func := "loop.example/g00503/laws.FnExactPutPart", spec := "fnExactPutPart", apart := false }
def FnExactPutPartSaid : Prop := fnExactPutPartRow.holds Try.pinned (OpenSpec.ofChange fnExactPutPartSpec)

/-- ITS FALSE NEIGHBOUR: 'it returns false'. Refute it at one input. -/
def fnExactPutPartWrong : ChangeSpec := { name := "fnExactPutPart", fn := fun _ => fun
  | [d1, d2] => { results := [.lit (.bool false)], args := [d1, d2] }
  | _ => none }
def FnExactPutPartWrongFalsely : Prop := fnExactPutPartRow.holds Try.pinned (OpenSpec.ofChange fnExactPutPartWrong)

/-- 'laws.FnExactSumOf': WHATEVER THE INPUT: true; the input reads as it did. -/
def fnExactSumOfSpec : ChangeSpec := { name := "fnExactSumOf", fn := fun _ => fun
  | [d] => { results := [.lit (.bool true)], args := [d] }
  | _ => none }
def fnExactSumOfRow : OpenClaim := { program := "ytbhpnckebecffaa", sum := "0cc608507a809e9e45a8c9e5af7e144ee235e6975640dc968a2d5c32c6850980", func := "loop.example/g00503/laws.FnExactSumOf", spec := "fnExactSumOf", apart := false }
def FnExactSumOfSaid : Prop := fnExactSumOfRow.holds Try.pinned (OpenSpec.ofChange fnExactSumOfSpec)

/-- ITS FALSE NEIGHBOUR: 'it returns false'. Refute it at one input. -/
def fnExactSumOfWrong : ChangeSpec := { name := "fnExactSumOf", fn := fun _ => fun
  | [d] => { results := [.lit (.bool false)], args := [d] }
  | _ => none }
def FnExactSumOfWrongFalsely : Prop := fnExactSumOfRow.holds Try.pinned (OpenSpec.ofChange fnExactSumOfWrong)

/-- 'laws.FnExactAllParts': WHATEVER THE INPUT: true; the input reads as it did. -/
def fnExactAllPartsSpec : ChangeSpec := { name := "fnExactAllParts", fn := fun _ => fun
  | [d] => { results := [.lit (.bool true)], args := [d] }
  | _ => none }
def fnExactAllPartsRow : OpenClaim := { program := "ytbhpnckebecffaa", sum := "0cc608507a809e9e45a8c9e5af7e144ee235e6975640dc968a2d5c32c6850980", func := "loop.example/g00503/laws.FnExactAllParts", spec := "fnExactAllParts", apart := false }
def FnExactAllPartsSaid : Prop := fnExactAllPartsRow.holds Try.pinned (OpenSpec.ofChange fnExactAllPartsSpec)

/-- ITS FALSE NEIGHBOUR: 'it returns false'. Refute it at one input. -/
def fnExactAllPartsWrong : ChangeSpec := { name := "fnExactAllParts", fn := fun _ => fun
  | [d] => { results := [.lit (.bool false)], args := [d] }
  | _ => none }
def FnExactAllPartsWrongFalsely : Prop := fnExactAllPartsRow.holds Try.pinned (OpenSpec.ofChange fnExactAllPartsWrong)

/-- 'laws.FnExactGetPart': WHATEVER THE INPUT: true; the input reads as it did. -/
def fnExactGetPartSpec : ChangeSpec := { name := "fnExactGetPart", fn := fun _ => fun
  | [d1, d2, d3] => { results := [.lit (.bool true)], args := [d1, d2, d3] }
  | _ => none }
def fnExactGetPartRow : OpenClaim := { program := "ytbhpnckebecffaa", sum := "0cc608507a809e9e45a8c9e5af7e144ee235e6975640dc968a2d5c32c6850980", func := "loop.example/g00503/laws.FnExactGetPart", spec := "fnExactGetPart", apart := false }
def FnExactGetPartSaid : Prop := fnExactGetPartRow.holds Try.pinned (OpenSpec.ofChange fnExactGetPartSpec)

/-- ITS FALSE NEIGHBOUR: 'it returns false'. Refute it at one input. -/
def fnExactGetPartWrong : ChangeSpec := { name := "fnExactGetPart", fn := fun _ => fun
  | [d1, d2, d3] => { results := [.lit (.bool false)], args := [d1, d2, d3] }
  | _ => none }
def FnExactGetPartWrongFalsely : Prop := fnExactGetPartRow.holds Try.pinned (OpenSpec.ofChange fnExactGetPartWrong)

/-- 'laws.FnExactSameMan': WHATEVER THE INPUT: true; the input reads as it did. -/
def fnExactSameManSpec : ChangeSpec := { name := "fnExactSameMan", fn := fun _ => fun
  | [d1, d2] => { results := [.lit (.bool true)], args := [d1, d2] }
  | _ => none }
def fnExactSameManRow : OpenClaim := { program := "ytbhpnckebecffaa", sum := "0cc608507a809e9e45a8c9e5af7e144ee235e6975640dc968a2d5c32c6850980", func := "loop.example/g00503/laws.FnExactSameMan", spec := "fnExactSameMan", apart := false }
def FnExactSameManSaid : Prop := fnExactSameManRow.holds Try.pinned (OpenSpec.ofChange fnExactSameManSpec)

/-- ITS FALSE NEIGHBOUR: 'it returns false'. Refute it at one input. -/
def fnExactSameManWrong : ChangeSpec := { name := "fnExactSameMan", fn := fun _ => fun
  | [d1, d2] => { results := [.lit (.bool false)], args := [d1, d2] }
  | _ => none }
def FnExactSameManWrongFalsely : Prop := fnExactSameManRow.holds Try.pinned (OpenSpec.ofChange fnExactSameManWrong)

/-- 'laws.FnExactBlockAt': WHATEVER THE INPUT: true; the input reads as it did. -/
def fnExactBlockAtSpec : ChangeSpec := { name := "fnExactBlockAt", fn := fun _ => fun
  | [d1, d2, d3] => { results := [.lit (.bool true)], args := [d1, d2, d3] }
  | _ => none }
def fnExactBlockAtRow : OpenClaim := { program := "ytbhpnckebecffaa", sum := "0cc608507a809e9e45a8c9e5af7e144ee235e6975640dc968a2d5c32c6850980", func := "loop.example/g00503/laws.FnExactBlockAt", spec := "fnExactBlockAt", apart := false }
def FnExactBlockAtSaid : Prop := fnExactBlockAtRow.holds Try.pinned (OpenSpec.ofChange fnExactBlockAtSpec)

/-- ITS FALSE NEIGHBOUR: 'it returns false'. Refute it at one input. -/
def fnExactBlockAtWrong : ChangeSpec := { name := "fnExactBlockAt", fn := fun _ => fun
  | [d1, d2, d3] => { results := [.lit (.bool false)], args := [d1, d2, d3] }
  | _ => none }
def FnExactBlockAtWrongFalsely : Prop := fnExactBlockAtRow.holds Try.pinned (OpenSpec.ofChange fnExactBlockAtWrong)

/-- 'laws.FnJoins': WHATEVER THE INPUT: true; the input reads as it did. -/
def fnJoinsSpec : ChangeSpec := { name := "fnJoins", fn := fun _ => fun
  | [d] => { results := [.lit (.bool true)], args := [d] }
  | _ => none }
def fnJoinsRow : OpenClaim := { program := "ytbhpnckebecffaa", sum := "0cc608507a809e9e45a8c9e5af7e144ee235e6975640dc968a2d5c32c6850980", func := "loop.example/g00503/laws.FnJoins", spec := "fnJoins", apart := false }
def FnJoinsSaid : Prop := fnJoinsRow.holds Try.pinned (OpenSpec.ofChange fnJoinsSpec)

/-- ITS FALSE NEIGHBOUR: 'it returns false'. Refute it at one input. -/
def fnJoinsWrong : ChangeSpec := { name := "fnJoins", fn := fun _ => fun
  | [d] => { results := [.lit (.bool false)], args := [d] }
  | _ => none }
def FnJoinsWrongFalsely : Prop := fnJoinsRow.holds Try.pinned (OpenSpec.ofChange fnJoinsWrong)

/-- 'laws.FnSumsApart': WHATEVER THE INPUT: true; the input reads as it did. -/
def fnSumsApartSpec : ChangeSpec := { name := "fnSumsApart", fn := fun _ => fun
  | [d] => { results := [.lit (.bool true)], args := [d] }
  | _ => none }
def fnSumsApartRow : OpenClaim := { program := "ytbhpnckebecffaa", sum := "0cc608507a809e9e45a8c9e5af7e144ee235e6975640dc968a2d5c32c6850980", func := "loop.example/g00503/laws.FnSumsApart", spec := "fnSumsApart", apart := false }
def FnSumsApartSaid : Prop := fnSumsApartRow.holds Try.pinned (OpenSpec.ofChange fnSumsApartSpec)

/-- ITS FALSE NEIGHBOUR: 'it returns false'. Refute it at one input. -/
def fnSumsApartWrong : ChangeSpec := { name := "fnSumsApart", fn := fun _ => fun
  | [d] => { results := [.lit (.bool false)], args := [d] }
  | _ => none }
def FnSumsApartWrongFalsely : Prop := fnSumsApartRow.holds Try.pinned (OpenSpec.ofChange fnSumsApartWrong)

/-- 'laws.FnExactFirstWindow': WHATEVER THE INPUT: true; the input reads as it did. -/
def fnExactFirstWindowSpec : ChangeSpec := { name := "fnExactFirstWindow", fn := fun _ => fun
  | [d1, d2, d3] => { results := [.lit (.bool true)], args := [d1, d2, d3] }
  | _ => none }
def fnExactFirstWindowRow : OpenClaim := { program := "ytbhpnckebecffaa", sum := "0cc608507a809e9e45a8c9e5af7e144ee235e6975640dc968a2d5c32c6850980", func := "loop.example/g00503/laws.FnExactFirstWindow", spec := "fnExactFirstWindow", apart := false }
def FnExactFirstWindowSaid : Prop := fnExactFirstWindowRow.holds Try.pinned (OpenSpec.ofChange fnExactFirstWindowSpec)

/-- ITS FALSE NEIGHBOUR: 'it returns false'. Refute it at one input. -/
def fnExactFirstWindowWrong : ChangeSpec := { name := "fnExactFirstWindow", fn := fun _ => fun
  | [d1, d2, d3] => { results := [.lit (.bool false)], args := [d1, d2, d3] }
  | _ => none }
def FnExactFirstWindowWrongFalsely : Prop := fnExactFirstWindowRow.holds Try.pinned (OpenSpec.ofChange fnExactFirstWindowWrong)

/-- 'laws.FnExactFindSum': WHATEVER THE INPUT: true; the input reads as it did. -/
def fnExactFindSumSpec : ChangeSpec := { name := "fnExactFindSum", fn := fun _ => fun
  | [d1, d2, d3] => { results := [.lit (.bool true)], args := [d1, d2, d3] }
  | _ => none }
def fnExactFindSumRow : OpenClaim := { program := "ytbhpnckebecffaa", sum := "0cc608507a809e9e45a8c9e5af7e144ee235e6975640dc968a2d5c32c6850980", func := "loop.example/g00503/laws.FnExactFindSum", spec := "fnExactFindSum", apart := false }
def FnExactFindSumSaid : Prop := fnExactFindSumRow.holds Try.pinned (OpenSpec.ofChange fnExactFindSumSpec)

/-- ITS FALSE NEIGHBOUR: 'it returns false'. Refute it at one input. -/
def fnExactFindSumWrong : ChangeSpec := { name := "fnExactFindSum", fn := fun _ => fun
  | [d1, d2, d3] => { results := [.lit (.bool false)], args := [d1, d2, d3] }
  | _ => none }
def FnExactFindSumWrongFalsely : Prop := fnExactFindSumRow.holds Try.pinned (OpenSpec.ofChange fnExactFindSumWrong)

/-- 'laws.FnExactWindows': WHATEVER THE INPUT: true; the input reads as it did. -/
def fnExactWindowsSpec : ChangeSpec := { name := "fnExactWindows", fn := fun _ => fun
  | [d1, d2] => { results := [.lit (.bool true)], args := [d1, d2] }
  | _ => none }
def fnExactWindowsRow : OpenClaim := { program := "ytbhpnckebecffaa", sum := "0cc608507a809e9e45a8c9e5af7e144ee235e6975640dc968a2d5c32c6850980", func := "loop.example/g00503/laws.FnExactWindows", spec := "fnExactWindows", apart := false }
def FnExactWindowsSaid : Prop := fnExactWindowsRow.holds Try.pinned (OpenSpec.ofChange fnExactWindowsSpec)

/-- ITS FALSE NEIGHBOUR: 'it returns false'. Refute it at one input. -/
def fnExactWindowsWrong : ChangeSpec := { name := "fnExactWindows", fn := fun _ => fun
  | [d1, d2] => { results := [.lit (.bool false)], args := [d1, d2] }
  | _ => none }
def FnExactWindowsWrongFalsely : Prop := fnExactWindowsRow.holds Try.pinned (OpenSpec.ofChange fnExactWindowsWrong)

/- THE SECOND FORM. 'bulk': how many values and letters a reading holds, each counted each time it is reached (what is shared counts as often as it is met; a slice's spare places count too). A statement '..UptoSaid' is the law's where the arguments, and the package variables that the reading takes, are together of bulk at most 1048576: NARROWER than '..Said'. Prove '..Said' where nothing that the law and all that it calls make is longer than what came in: it says more and counts as full. Else prove '..UptoSaid'. A law counts once. -/
mutual
def uptoBulk {H : Type} : DataW H → Nat
  | .lit (.string bytes) => bytes.length + 1
  | .lit _ => 1
  | .nil => 1
  | .ptr d => uptoBulk d + 1
  | .slice elems spare => uptoBulkAll elems + uptoBulkAll spare + 1
  | .agg parts => uptoBulkAll parts + 1
  | .iface _ d => uptoBulk d + 1
  | .map entries => uptoBulkEntries entries + 1
  | .held _ => 1
def uptoBulkAll {H : Type} : List (DataW H) → Nat
  | [] => 0
  | d :: r => uptoBulk d + uptoBulkAll r
def uptoBulkEntries {H : Type} : List (Lit × DataW H) → Nat
  | [] => 0
  | x :: r => uptoBulkEntry x + uptoBulkEntries r
def uptoBulkEntry {H : Type} : Lit × DataW H → Nat
  | (.string bytes, d) => bytes.length + uptoBulk d + 1
  | (_, d) => uptoBulk d + 1
 end
def uptoSmall : (H : Type) → List (DataW H) → Bool := fun _ ds => decide (uptoBulkAll ds ≤ 1048576)
def OpenSpec.upto (s : _root_.Go.ChangeSpec) : _root_.Go.OpenSpec := { _root_.Go.OpenSpec.ofChange s with cond := some uptoSmall }

/-- 'laws.FnExactPutVar', WHERE WHAT IT READS IS OF BULK AT MOST 1048576: true; the input reads as it did. -/
def fnExactPutVarUptoRow : OpenClaim := { program := "ytbhpnckebecffaa", sum := "0cc608507a809e9e45a8c9e5af7e144ee235e6975640dc968a2d5c32c6850980", func := "loop.example/g00503/laws.FnExactPutVar", spec := "fnExactPutVar", apart := false, narrowed := true }
def FnExactPutVarUptoSaid : Prop := fnExactPutVarUptoRow.holds Try.pinned (OpenSpec.upto fnExactPutVarSpec)

/-- 'laws.FnExactPutPart', WHERE WHAT IT READS IS OF BULK AT MOST 1048576: true; the input reads as it did. -/
def fnExactPutPartUptoRow : OpenClaim := { program := "ytbhpnckebecffaa", sum := "0cc608507a809e9e45a8c9e5af7e144ee235e6975640dc968a2d5c32c6850980", func := "loop.example/g00503/laws.FnExactPutPart", spec := "fnExactPutPart", apart := false, narrowed := true }
def FnExactPutPartUptoSaid : Prop := fnExactPutPartUptoRow.holds Try.pinned (OpenSpec.upto fnExactPutPartSpec)

/-- 'laws.FnExactSumOf', WHERE WHAT IT READS IS OF BULK AT MOST 1048576: true; the input reads as it did. -/
def fnExactSumOfUptoRow : OpenClaim := { program := "ytbhpnckebecffaa", sum := "0cc608507a809e9e45a8c9e5af7e144ee235e6975640dc968a2d5c32c6850980", func := "loop.example/g00503/laws.FnExactSumOf", spec := "fnExactSumOf", apart := false, narrowed := true }
def FnExactSumOfUptoSaid : Prop := fnExactSumOfUptoRow.holds Try.pinned (OpenSpec.upto fnExactSumOfSpec)

/-- 'laws.FnExactAllParts', WHERE WHAT IT READS IS OF BULK AT MOST 1048576: true; the input reads as it did. -/
def fnExactAllPartsUptoRow : OpenClaim := { program := "ytbhpnckebecffaa", sum := "0cc608507a809e9e45a8c9e5af7e144ee235e6975640dc968a2d5c32c6850980", func := "loop.example/g00503/laws.FnExactAllParts", spec := "fnExactAllParts", apart := false, narrowed := true }
def FnExactAllPartsUptoSaid : Prop := fnExactAllPartsUptoRow.holds Try.pinned (OpenSpec.upto fnExactAllPartsSpec)

/-- 'laws.FnExactGetPart', WHERE WHAT IT READS IS OF BULK AT MOST 1048576: true; the input reads as it did. -/
def fnExactGetPartUptoRow : OpenClaim := { program := "ytbhpnckebecffaa", sum := "0cc608507a809e9e45a8c9e5af7e144ee235e6975640dc968a2d5c32c6850980", func := "loop.example/g00503/laws.FnExactGetPart", spec := "fnExactGetPart", apart := false, narrowed := true }
def FnExactGetPartUptoSaid : Prop := fnExactGetPartUptoRow.holds Try.pinned (OpenSpec.upto fnExactGetPartSpec)

/-- 'laws.FnExactSameMan', WHERE WHAT IT READS IS OF BULK AT MOST 1048576: true; the input reads as it did. -/
def fnExactSameManUptoRow : OpenClaim := { program := "ytbhpnckebecffaa", sum := "0cc608507a809e9e45a8c9e5af7e144ee235e6975640dc968a2d5c32c6850980", func := "loop.example/g00503/laws.FnExactSameMan", spec := "fnExactSameMan", apart := false, narrowed := true }
def FnExactSameManUptoSaid : Prop := fnExactSameManUptoRow.holds Try.pinned (OpenSpec.upto fnExactSameManSpec)

/-- 'laws.FnExactBlockAt', WHERE WHAT IT READS IS OF BULK AT MOST 1048576: true; the input reads as it did. -/
def fnExactBlockAtUptoRow : OpenClaim := { program := "ytbhpnckebecffaa", sum := "0cc608507a809e9e45a8c9e5af7e144ee235e6975640dc968a2d5c32c6850980", func := "loop.example/g00503/laws.FnExactBlockAt", spec := "fnExactBlockAt", apart := false, narrowed := true }
def FnExactBlockAtUptoSaid : Prop := fnExactBlockAtUptoRow.holds Try.pinned (OpenSpec.upto fnExactBlockAtSpec)

/-- 'laws.FnJoins', WHERE WHAT IT READS IS OF BULK AT MOST 1048576: true; the input reads as it did. -/
def fnJoinsUptoRow : OpenClaim := { program := "ytbhpnckebecffaa", sum := "0cc608507a809e9e45a8c9e5af7e144ee235e6975640dc968a2d5c32c6850980", func := "loop.example/g00503/laws.FnJoins", spec := "fnJoins", apart := false, narrowed := true }
def FnJoinsUptoSaid : Prop := fnJoinsUptoRow.holds Try.pinned (OpenSpec.upto fnJoinsSpec)

/-- 'laws.FnSumsApart', WHERE WHAT IT READS IS OF BULK AT MOST 1048576: true; the input reads as it did. -/
def fnSumsApartUptoRow : OpenClaim := { program := "ytbhpnckebecffaa", sum := "0cc608507a809e9e45a8c9e5af7e144ee235e6975640dc968a2d5c32c6850980", func := "loop.example/g00503/laws.FnSumsApart", spec := "fnSumsApart", apart := false, narrowed := true }
def FnSumsApartUptoSaid : Prop := fnSumsApartUptoRow.holds Try.pinned (OpenSpec.upto fnSumsApartSpec)

/-- 'laws.FnExactFirstWindow', WHERE WHAT IT READS IS OF BULK AT MOST 1048576: true; the input reads as it did. -/
def fnExactFirstWindowUptoRow : OpenClaim := { program := "ytbhpnckebecffaa", sum := "0cc608507a809e9e45a8c9e5af7e144ee235e6975640dc968a2d5c32c6850980", func := "loop.example/g00503/laws.FnExactFirstWindow", spec := "fnExactFirstWindow", apart := false, narrowed := true }
def FnExactFirstWindowUptoSaid : Prop := fnExactFirstWindowUptoRow.holds Try.pinned (OpenSpec.upto fnExactFirstWindowSpec)

/-- 'laws.FnExactFindSum', WHERE WHAT IT READS IS OF BULK AT MOST 1048576: true; the input reads as it did. -/
def fnExactFindSumUptoRow : OpenClaim := { program := "ytbhpnckebecffaa", sum := "0cc608507a809e9e45a8c9e5af7e144ee235e6975640dc968a2d5c32c6850980", func := "loop.example/g00503/laws.FnExactFindSum", spec := "fnExactFindSum", apart := false, narrowed := true }
def FnExactFindSumUptoSaid : Prop := fnExactFindSumUptoRow.holds Try.pinned (OpenSpec.upto fnExactFindSumSpec)

/-- 'laws.FnExactWindows', WHERE WHAT IT READS IS OF BULK AT MOST 1048576: true; the input reads as it did. -/
def fnExactWindowsUptoRow : OpenClaim := { program := "ytbhpnckebecffaa", sum := "0cc608507a809e9e45a8c9e5af7e144ee235e6975640dc968a2d5c32c6850980", func := "loop.example/g00503/laws.FnExactWindows", spec := "fnExactWindows", apart := false, narrowed := true }
def FnExactWindowsUptoSaid : Prop := fnExactWindowsUptoRow.holds Try.pinned (OpenSpec.upto fnExactWindowsSpec)

end Rows
end Go.Proofs.Ytbhpnckebecffaa
