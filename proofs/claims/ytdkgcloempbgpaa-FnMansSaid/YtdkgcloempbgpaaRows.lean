/-
  No cell of these rows narrows 'for every input' (looked for: loops, veiled, ifaces, maps, wideKeys, modest, calm, conditions, laid).
  DERIVED. THE GIVEN ROWS OF THIS SEAT. 7 by the template 'for every input the law returns true; each argument reads behind the call as it read before'; 0 by the template 'total and deterministic' (their statements: YtdkgcloempbgpaaTotals.lean).
  GIVEN WITH THE SEED: the statements are not yours to turn. If you find one false, say at which input.
  Laid BY PROGRAM, IN A SANDBOX (cutbox-rows.mjs): the forced cells as the released guide's own fill.sh prints them over the translation 612cbaa51bdeea02… (all of the seat's roots in one cut). By AI agents, Wed Nov 11 2026. No macro, syntax, notation, axiom, sorry.
-/
import Derived.Test.YtdkgcloempbgpaaChecked
import GoSem.Claim
import GoSem.ClaimJoined
import GoSem.ClaimMapViews
import Derived.JoinedTies
import Derived.KernelRfl
namespace Go.Proofs.Ytdkgcloempbgpaa
/- THE CELL 'sum', in the pinned program and in every row, IS THE sha256 OF THE DUMP (.gsa) THAT YtdkgcloempbgpaaProg.lean LOADS. Nothing in Lean hashes anything: it is a label: what it is worth is what the hold of that sum in a sandbox is worth. -/
noncomputable def Try.pinned : Pinned := { name := "ytdkgcloempbgpaa", sum := "612cbaa51bdeea02d4b3c743516d92df8b34393202131f0ef2144f84bb7597a5", checked := Try.checked }
namespace Rows
def none {H : Type} : Left H := { results := [], args := [] }

/-- 'laws.FnExactPlaceOf': WHATEVER THE INPUT: true; the input reads as it did. -/
def fnExactPlaceOfSpec : ChangeSpec := { name := "fnExactPlaceOf", fn := fun _ => fun
  | [d1, d2, d3] => { results := [.lit (.bool true)], args := [d1, d2, d3] }
  | _ => none }
def fnExactPlaceOfRow : OpenClaim := { program := "ytdkgcloempbgpaa", sum := "612cbaa51bdeea02d4b3c743516d92df8b34393202131f0ef2144f84bb7597a5", func := "loop.example/g00503/laws.FnExactPlaceOf", spec := "fnExactPlaceOf", apart := false }
def FnExactPlaceOfSaid : Prop := fnExactPlaceOfRow.holds Try.pinned (OpenSpec.ofChange fnExactPlaceOfSpec)

/-- ITS FALSE NEIGHBOUR: 'it returns false'. Refute it at one input. -/
def fnExactPlaceOfWrong : ChangeSpec := { name := "fnExactPlaceOf", fn := fun _ => fun
  | [d1, d2, d3] => { results := [.lit (.bool false)], args := [d1, d2, d3] }
  | _ => none }
def FnExactPlaceOfWrongFalsely : Prop := fnExactPlaceOfRow.holds Try.pinned (OpenSpec.ofChange fnExactPlaceOfWrong)

/-- 'laws.FnExactFound': WHATEVER THE INPUT: true; the input reads as it did. -/
def fnExactFoundSpec : ChangeSpec := { name := "fnExactFound", fn := fun _ => fun
  | [d1, d2] => { results := [.lit (.bool true)], args := [d1, d2] }
  | _ => none }
def fnExactFoundRow : OpenClaim := { program := "ytdkgcloempbgpaa", sum := "612cbaa51bdeea02d4b3c743516d92df8b34393202131f0ef2144f84bb7597a5", func := "loop.example/g00503/laws.FnExactFound", spec := "fnExactFound", apart := false }
def FnExactFoundSaid : Prop := fnExactFoundRow.holds Try.pinned (OpenSpec.ofChange fnExactFoundSpec)

/-- ITS FALSE NEIGHBOUR: 'it returns false'. Refute it at one input. -/
def fnExactFoundWrong : ChangeSpec := { name := "fnExactFound", fn := fun _ => fun
  | [d1, d2] => { results := [.lit (.bool false)], args := [d1, d2] }
  | _ => none }
def FnExactFoundWrongFalsely : Prop := fnExactFoundRow.holds Try.pinned (OpenSpec.ofChange fnExactFoundWrong)

/-- 'laws.FnExactLacking': WHATEVER THE INPUT: true; the input reads as it did. -/
def fnExactLackingSpec : ChangeSpec := { name := "fnExactLacking", fn := fun _ => fun
  | [d1, d2] => { results := [.lit (.bool true)], args := [d1, d2] }
  | _ => none }
def fnExactLackingRow : OpenClaim := { program := "ytdkgcloempbgpaa", sum := "612cbaa51bdeea02d4b3c743516d92df8b34393202131f0ef2144f84bb7597a5", func := "loop.example/g00503/laws.FnExactLacking", spec := "fnExactLacking", apart := false }
def FnExactLackingSaid : Prop := fnExactLackingRow.holds Try.pinned (OpenSpec.ofChange fnExactLackingSpec)

/-- ITS FALSE NEIGHBOUR: 'it returns false'. Refute it at one input. -/
def fnExactLackingWrong : ChangeSpec := { name := "fnExactLacking", fn := fun _ => fun
  | [d1, d2] => { results := [.lit (.bool false)], args := [d1, d2] }
  | _ => none }
def FnExactLackingWrongFalsely : Prop := fnExactLackingRow.holds Try.pinned (OpenSpec.ofChange fnExactLackingWrong)

/-- 'laws.FnExactPlaces': WHATEVER THE INPUT: true; the input reads as it did. -/
def fnExactPlacesSpec : ChangeSpec := { name := "fnExactPlaces", fn := fun _ => fun
  | [d1, d2] => { results := [.lit (.bool true)], args := [d1, d2] }
  | _ => none }
def fnExactPlacesRow : OpenClaim := { program := "ytdkgcloempbgpaa", sum := "612cbaa51bdeea02d4b3c743516d92df8b34393202131f0ef2144f84bb7597a5", func := "loop.example/g00503/laws.FnExactPlaces", spec := "fnExactPlaces", apart := false }
def FnExactPlacesSaid : Prop := fnExactPlacesRow.holds Try.pinned (OpenSpec.ofChange fnExactPlacesSpec)

/-- ITS FALSE NEIGHBOUR: 'it returns false'. Refute it at one input. -/
def fnExactPlacesWrong : ChangeSpec := { name := "fnExactPlaces", fn := fun _ => fun
  | [d1, d2] => { results := [.lit (.bool false)], args := [d1, d2] }
  | _ => none }
def FnExactPlacesWrongFalsely : Prop := fnExactPlacesRow.holds Try.pinned (OpenSpec.ofChange fnExactPlacesWrong)

/-- 'laws.FnExactPutMan': WHATEVER THE INPUT: true; the input reads as it did. -/
def fnExactPutManSpec : ChangeSpec := { name := "fnExactPutMan", fn := fun _ => fun
  | [d1, d2] => { results := [.lit (.bool true)], args := [d1, d2] }
  | _ => none }
def fnExactPutManRow : OpenClaim := { program := "ytdkgcloempbgpaa", sum := "612cbaa51bdeea02d4b3c743516d92df8b34393202131f0ef2144f84bb7597a5", func := "loop.example/g00503/laws.FnExactPutMan", spec := "fnExactPutMan", apart := false }
def FnExactPutManSaid : Prop := fnExactPutManRow.holds Try.pinned (OpenSpec.ofChange fnExactPutManSpec)

/-- ITS FALSE NEIGHBOUR: 'it returns false'. Refute it at one input. -/
def fnExactPutManWrong : ChangeSpec := { name := "fnExactPutMan", fn := fun _ => fun
  | [d1, d2] => { results := [.lit (.bool false)], args := [d1, d2] }
  | _ => none }
def FnExactPutManWrongFalsely : Prop := fnExactPutManRow.holds Try.pinned (OpenSpec.ofChange fnExactPutManWrong)

/-- 'laws.FnExactGetMan': WHATEVER THE INPUT: true; the input reads as it did. -/
def fnExactGetManSpec : ChangeSpec := { name := "fnExactGetMan", fn := fun _ => fun
  | [d1, d2] => { results := [.lit (.bool true)], args := [d1, d2] }
  | _ => none }
def fnExactGetManRow : OpenClaim := { program := "ytdkgcloempbgpaa", sum := "612cbaa51bdeea02d4b3c743516d92df8b34393202131f0ef2144f84bb7597a5", func := "loop.example/g00503/laws.FnExactGetMan", spec := "fnExactGetMan", apart := false }
def FnExactGetManSaid : Prop := fnExactGetManRow.holds Try.pinned (OpenSpec.ofChange fnExactGetManSpec)

/-- ITS FALSE NEIGHBOUR: 'it returns false'. Refute it at one input. -/
def fnExactGetManWrong : ChangeSpec := { name := "fnExactGetMan", fn := fun _ => fun
  | [d1, d2] => { results := [.lit (.bool false)], args := [d1, d2] }
  | _ => none }
def FnExactGetManWrongFalsely : Prop := fnExactGetManRow.holds Try.pinned (OpenSpec.ofChange fnExactGetManWrong)

/-- 'laws.FnMans': WHATEVER THE INPUT: true; the input reads as it did. -/
def fnMansSpec : ChangeSpec := { name := "fnMans", fn := fun _ => fun
  | [d] => { results := [.lit (.bool true)], args := [d] }
  | _ => none }
def fnMansRow : OpenClaim := { program := "ytdkgcloempbgpaa", sum := "612cbaa51bdeea02d4b3c743516d92df8b34393202131f0ef2144f84bb7597a5", func := "loop.example/g00503/laws.FnMans", spec := "fnMans", apart := false }
def FnMansSaid : Prop := fnMansRow.holds Try.pinned (OpenSpec.ofChange fnMansSpec)

/-- ITS FALSE NEIGHBOUR: 'it returns false'. Refute it at one input. -/
def fnMansWrong : ChangeSpec := { name := "fnMans", fn := fun _ => fun
  | [d] => { results := [.lit (.bool false)], args := [d] }
  | _ => none }
def FnMansWrongFalsely : Prop := fnMansRow.holds Try.pinned (OpenSpec.ofChange fnMansWrong)

/- THE SECOND FORM. 'bulk': how many values and letters a reading holds, each counted each time it is reached (what is shared counts as often as it is met; a slice's spare places count too). A statement '..UptoSaid' is the law's where the arguments, and the package variables that the reading takes, are together of bulk at most 1048576: NARROWER than '..Said'. Prove '..Said' where nothing that the law and all that it calls make is longer than what came in: it says more and counts as full. Else prove '..UptoSaid'. A law counts once. -/
mutual
def uptoBulk {H : Type} : DataW H → Nat
  | .lit (.string bytes) => bytes.length + 1
  | .lit _ => 1
  | .nil => 1
  | .ptr d => uptoBulk d + 1
  | .slice elems spare => uptoBulkAll elems + uptoBulkAll spare + 1
  | .agg parts => uptoBulkAll parts + 1
  | .iface _ d => uptoBulk d + 1
  | .map entries => uptoBulkEntries entries + 1
  | .held _ => 1
def uptoBulkAll {H : Type} : List (DataW H) → Nat
  | [] => 0
  | d :: r => uptoBulk d + uptoBulkAll r
def uptoBulkEntries {H : Type} : List (Lit × DataW H) → Nat
  | [] => 0
  | x :: r => uptoBulkEntry x + uptoBulkEntries r
def uptoBulkEntry {H : Type} : Lit × DataW H → Nat
  | (.string bytes, d) => bytes.length + uptoBulk d + 1
  | (_, d) => uptoBulk d + 1
 end
def uptoSmall : (H : Type) → List (DataW H) → Bool := fun _ ds => decide (uptoBulkAll ds ≤ 1048576)
def OpenSpec.upto (s : _root_.Go.ChangeSpec) : _root_.Go.OpenSpec := { _root_.Go.OpenSpec.ofChange s with cond := some uptoSmall }

/-- 'laws.FnExactPlaceOf', WHERE WHAT IT READS IS OF BULK AT MOST 1048576: true; the input reads as it did. -/
def fnExactPlaceOfUptoRow : OpenClaim := { program := "ytdkgcloempbgpaa", sum := "612cbaa51bdeea02d4b3c743516d92df8b34393202131f0ef2144f84bb7597a5", func := "loop.example/g00503/laws.FnExactPlaceOf", spec := "fnExactPlaceOf", apart := false, narrowed := true }
def FnExactPlaceOfUptoSaid : Prop := fnExactPlaceOfUptoRow.holds Try.pinned (OpenSpec.upto fnExactPlaceOfSpec)

/-- 'laws.FnExactFound', WHERE WHAT IT READS IS OF BULK AT MOST 1048576: true; the input reads as it did. -/
def fnExactFoundUptoRow : OpenClaim := { program := "ytdkgcloempbgpaa", sum := "612cbaa51bdeea02d4b3c743516d92df8b34393202131f0ef2144f84bb7597a5", func := "loop.example/g00503/laws.FnExactFound", spec := "fnExactFound", apart := false, narrowed := true }
def FnExactFoundUptoSaid : Prop := fnExactFoundUptoRow.holds Try.pinned (OpenSpec.upto fnExactFoundSpec)

/-- 'laws.FnExactLacking', WHERE WHAT IT READS IS OF BULK AT MOST 1048576: true; the input reads as it did. -/
def fnExactLackingUptoRow : OpenClaim := { program := "ytdkgcloempbgpaa", sum := "612cbaa51bdeea02d4b3c743516d92df8b34393202131f0ef2144f84bb7597a5", func := "loop.example/g00503/laws.FnExactLacking", spec := "fnExactLacking", apart := false, narrowed := true }
def FnExactLackingUptoSaid : Prop := fnExactLackingUptoRow.holds Try.pinned (OpenSpec.upto fnExactLackingSpec)

/-- 'laws.FnExactPlaces', WHERE WHAT IT READS IS OF BULK AT MOST 1048576: true; the input reads as it did. -/
def fnExactPlacesUptoRow : OpenClaim := { program := "ytdkgcloempbgpaa", sum := "612cbaa51bdeea02d4b3c743516d92df8b34393202131f0ef2144f84bb7597a5", func := "loop.example/g00503/laws.FnExactPlaces", spec := "fnExactPlaces", apart := false, narrowed := true }
def FnExactPlacesUptoSaid : Prop := fnExactPlacesUptoRow.holds Try.pinned (OpenSpec.upto fnExactPlacesSpec)

/-- 'laws.FnExactPutMan', WHERE WHAT IT READS IS OF BULK AT MOST 1048576: true; the input reads as it did. -/
def fnExactPutManUptoRow : OpenClaim := { program := "ytdkgcloempbgpaa", sum := "612cbaa51bdeea02d4b3c743516d92df8b34393202131f0ef2144f84bb7597a5", func := "loop.example/g00503/laws.FnExactPutMan", spec := "fnExactPutMan", apart := false, narrowed := true }
def FnExactPutManUptoSaid : Prop := fnExactPutManUptoRow.holds Try.pinned (OpenSpec.upto fnExactPutManSpec)

/-- 'laws.FnExactGetMan', WHERE WHAT IT READS IS OF BULK AT MOST 1048576: true; the input reads as it did. -/
def fnExactGetManUptoRow : OpenClaim := { program := "ytdkgcloempbgpaa", sum := "612cbaa51bdeea02d4b3c743516d92df8b34393202131f0ef2144f84bb7597a5", func := "loop.example/g00503/laws.FnExactGetMan", spec := "fnExactGetMan", apart := false, narrowed := true }
def FnExactGetManUptoSaid : Prop := fnExactGetManUptoRow.holds Try.pinned (OpenSpec.upto fnExactGetManSpec)

/-- 'laws.FnMans', WHERE WHAT IT READS IS OF BULK AT MOST 1048576: true; the input reads as it did. -/
def fnMansUptoRow : OpenClaim := { program := "ytdkgcloempbgpaa", sum := "612cbaa51bdeea02d4b3c743516d92df8b34393202131f0ef2144f84bb7597a5", func := "loop.example/g00503/laws.FnMans", spec := "fnMans", apart := false, narrowed := true }
def FnMansUptoSaid : Prop := fnMansUptoRow.holds Try.pinned (OpenSpec.upto fnMansSpec)

end Rows
end Go.Proofs.Ytdkgcloempbgpaa
