/-
  No cell of these rows narrows 'for every input' (looked for: loops, veiled, ifaces, maps, wideKeys, modest, calm, conditions, laid).
  DERIVED. THE GIVEN ROWS OF THIS SEAT. 7 by the template 'for every input the law returns true; each argument reads behind the call as it read before'; 0 by the template 'total and deterministic' (their statements: YtnlabkkodilppaaTotals.lean).
  GIVEN WITH THE SEED: the statements are not yours to turn. If you find one false, say at which input.
  Laid BY PROGRAM, IN A SANDBOX (cutbox-rows.mjs): the forced cells as the released guide's own fill.sh prints them over the translation 162acf149bb4a875… (all of the seat's roots in one cut). By AI agents, Wed Nov 11 2026. No macro, syntax, notation, axiom, sorry.
-/
import Derived.Test.YtnlabkkodilppaaChecked
import GoSem.Claim
import GoSem.ClaimJoined
import GoSem.ClaimMapViews
import Derived.JoinedTies
import Derived.KernelRfl
namespace Go.Proofs.Ytnlabkkodilppaa
/- THE CELL 'sum', in the pinned program and in every row, IS THE sha256 OF THE DUMP (.gsa) THAT YtnlabkkodilppaaProg.lean LOADS. Nothing in Lean hashes anything: it is a label: what it is worth is what the hold of that sum in a sandbox is worth. -/
noncomputable def Try.pinned : Pinned := { name := "ytnlabkkodilppaa", sum := "162acf149bb4a875ffcc31537afb58845ef88bbf23f89a66d3d11b3a0cd7cd1c", checked := Try.checked }
namespace Rows
def none {H : Type} : Left H := { results := [], args := [] }

/-- 'freeboardlaw01.PolyNames': WHATEVER THE INPUT: true; the input reads as it did. -/
def polyNamesSpec : ChangeSpec := { name := "polyNames", fn := fun _ => fun
  | [] => { results := [.lit (.bool true)], args := [] }
  | _ => none }
def polyNamesRow : OpenClaim := { program := "ytnlabkkodilppaa", sum := "162acf149bb4a875ffcc31537afb58845ef88bbf23f89a66d3d11b3a0cd7cd1c", func := "freeboard/freeboardlaw01.PolyNames", spec := "polyNames", apart := false }
def PolyNamesSaid : Prop := polyNamesRow.holds Try.pinned (OpenSpec.ofChange polyNamesSpec)

/-- ITS FALSE NEIGHBOUR: 'it returns false'. Refute it at one input. -/
def polyNamesWrong : ChangeSpec := { name := "polyNames", fn := fun _ => fun
  | [] => { results := [.lit (.bool false)], args := [] }
  | _ => none }
def PolyNamesWrongFalsely : Prop := polyNamesRow.holds Try.pinned (OpenSpec.ofChange polyNamesWrong)

/-- 'freeboardlaw01.PolyTells': WHATEVER THE INPUT: true; the input reads as it did. -/
def polyTellsSpec : ChangeSpec := { name := "polyTells", fn := fun _ => fun
  | [d1, d2] => { results := [.lit (.bool true)], args := [d1, d2] }
  | _ => none }
def polyTellsRow : OpenClaim := { program := "ytnlabkkodilppaa", sum := "162acf149bb4a875ffcc31537afb58845ef88bbf23f89a66d3d11b3a0cd7cd1c", func := "freeboard/freeboardlaw01.PolyTells", spec := "polyTells", apart := false }
def PolyTellsSaid : Prop := polyTellsRow.holds Try.pinned (OpenSpec.ofChange polyTellsSpec)

/-- ITS FALSE NEIGHBOUR: 'it returns false'. Refute it at one input. -/
def polyTellsWrong : ChangeSpec := { name := "polyTells", fn := fun _ => fun
  | [d1, d2] => { results := [.lit (.bool false)], args := [d1, d2] }
  | _ => none }
def PolyTellsWrongFalsely : Prop := polyTellsRow.holds Try.pinned (OpenSpec.ofChange polyTellsWrong)

/-- 'freeboardlaw01.PolyOn': WHATEVER THE INPUT: true; the input reads as it did. -/
def polyOnSpec : ChangeSpec := { name := "polyOn", fn := fun _ => fun
  | [d1, d2, d3] => { results := [.lit (.bool true)], args := [d1, d2, d3] }
  | _ => none }
def polyOnRow : OpenClaim := { program := "ytnlabkkodilppaa", sum := "162acf149bb4a875ffcc31537afb58845ef88bbf23f89a66d3d11b3a0cd7cd1c", func := "freeboard/freeboardlaw01.PolyOn", spec := "polyOn", apart := false }
def PolyOnSaid : Prop := polyOnRow.holds Try.pinned (OpenSpec.ofChange polyOnSpec)

/-- ITS FALSE NEIGHBOUR: 'it returns false'. Refute it at one input. -/
def polyOnWrong : ChangeSpec := { name := "polyOn", fn := fun _ => fun
  | [d1, d2, d3] => { results := [.lit (.bool false)], args := [d1, d2, d3] }
  | _ => none }
def PolyOnWrongFalsely : Prop := polyOnRow.holds Try.pinned (OpenSpec.ofChange polyOnWrong)

/-- 'freeboardlaw01.PolyTurns': WHATEVER THE INPUT: true; the input reads as it did. -/
def polyTurnsSpec : ChangeSpec := { name := "polyTurns", fn := fun _ => fun
  | [d1, d2, d3] => { results := [.lit (.bool true)], args := [d1, d2, d3] }
  | _ => none }
def polyTurnsRow : OpenClaim := { program := "ytnlabkkodilppaa", sum := "162acf149bb4a875ffcc31537afb58845ef88bbf23f89a66d3d11b3a0cd7cd1c", func := "freeboard/freeboardlaw01.PolyTurns", spec := "polyTurns", apart := false }
def PolyTurnsSaid : Prop := polyTurnsRow.holds Try.pinned (OpenSpec.ofChange polyTurnsSpec)

/-- ITS FALSE NEIGHBOUR: 'it returns false'. Refute it at one input. -/
def polyTurnsWrong : ChangeSpec := { name := "polyTurns", fn := fun _ => fun
  | [d1, d2, d3] => { results := [.lit (.bool false)], args := [d1, d2, d3] }
  | _ => none }
def PolyTurnsWrongFalsely : Prop := polyTurnsRow.holds Try.pinned (OpenSpec.ofChange polyTurnsWrong)

/-- 'freeboardlaw01.PolyApart': WHATEVER THE INPUT: true; the input reads as it did. -/
def polyApartSpec : ChangeSpec := { name := "polyApart", fn := fun _ => fun
  | [d1, d2, d3] => { results := [.lit (.bool true)], args := [d1, d2, d3] }
  | _ => none }
def polyApartRow : OpenClaim := { program := "ytnlabkkodilppaa", sum := "162acf149bb4a875ffcc31537afb58845ef88bbf23f89a66d3d11b3a0cd7cd1c", func := "freeboard/freeboardlaw01.PolyApart", spec := "polyApart", apart := false }
def PolyApartSaid : Prop := polyApartRow.holds Try.pinned (OpenSpec.ofChange polyApartSpec)

/-- ITS FALSE NEIGHBOUR: 'it returns false'. Refute it at one input. -/
def polyApartWrong : ChangeSpec := { name := "polyApart", fn := fun _ => fun
  | [d1, d2, d3] => { results := [.lit (.bool false)], args := [d1, d2, d3] }
  | _ => none }
def PolyApartWrongFalsely : Prop := polyApartRow.holds Try.pinned (OpenSpec.ofChange polyApartWrong)

/-- 'freeboardlaw01.PolySelf': WHATEVER THE INPUT: true; the input reads as it did. -/
def polySelfSpec : ChangeSpec := { name := "polySelf", fn := fun _ => fun
  | [d1, d2] => { results := [.lit (.bool true)], args := [d1, d2] }
  | _ => none }
def polySelfRow : OpenClaim := { program := "ytnlabkkodilppaa", sum := "162acf149bb4a875ffcc31537afb58845ef88bbf23f89a66d3d11b3a0cd7cd1c", func := "freeboard/freeboardlaw01.PolySelf", spec := "polySelf", apart := false }
def PolySelfSaid : Prop := polySelfRow.holds Try.pinned (OpenSpec.ofChange polySelfSpec)

/-- ITS FALSE NEIGHBOUR: 'it returns false'. Refute it at one input. -/
def polySelfWrong : ChangeSpec := { name := "polySelf", fn := fun _ => fun
  | [d1, d2] => { results := [.lit (.bool false)], args := [d1, d2] }
  | _ => none }
def PolySelfWrongFalsely : Prop := polySelfRow.holds Try.pinned (OpenSpec.ofChange polySelfWrong)

/-- 'freeboardlaw01.PolyThree': WHATEVER THE INPUT: true; the input reads as it did. -/
def polyThreeSpec : ChangeSpec := { name := "polyThree", fn := fun _ => fun
  | [d1, d2, d3] => { results := [.lit (.bool true)], args := [d1, d2, d3] }
  | _ => none }
def polyThreeRow : OpenClaim := { program := "ytnlabkkodilppaa", sum := "162acf149bb4a875ffcc31537afb58845ef88bbf23f89a66d3d11b3a0cd7cd1c", func := "freeboard/freeboardlaw01.PolyThree", spec := "polyThree", apart := false }
def PolyThreeSaid : Prop := polyThreeRow.holds Try.pinned (OpenSpec.ofChange polyThreeSpec)

/-- ITS FALSE NEIGHBOUR: 'it returns false'. Refute it at one input. -/
def polyThreeWrong : ChangeSpec := { name := "polyThree", fn := fun _ => fun
  | [d1, d2, d3] => { results := [.lit (.bool false)], args := [d1, d2, d3] }
  | _ => none }
def PolyThreeWrongFalsely : Prop := polyThreeRow.holds Try.pinned (OpenSpec.ofChange polyThreeWrong)

/- THE SECOND FORM. 'bulk': how many values and letters a reading holds, each counted each time it is reached (what is shared counts as often as it is met; a slice's spare places count too). A statement '..UptoSaid' is the law's where the arguments, and the package variables that the reading takes, are together of bulk at most 1048576: NARROWER than '..Said'. Prove '..Said' where nothing that the law and all that it calls make is longer than what came in: it says more and counts as full. Else prove '..UptoSaid'. A law counts once. -/
mutual
def uptoBulk {H : Type} : DataW H → Nat
  | .lit (.string bytes) => bytes.length + 1
  | .lit _ => 1
  | .nil => 1
  | .ptr d => uptoBulk d + 1
  | .slice elems spare => uptoBulkAll elems + uptoBulkAll spare + 1
  | .agg parts => uptoBulkAll parts + 1
  | .iface _ d => uptoBulk d + 1
  | .map entries => uptoBulkEntries entries + 1
  | .held _ => 1
def uptoBulkAll {H : Type} : List (DataW H) → Nat
  | [] => 0
  | d :: r => uptoBulk d + uptoBulkAll r
def uptoBulkEntries {H : Type} : List (Lit × DataW H) → Nat
  | [] => 0
  | x :: r => uptoBulkEntry x + uptoBulkEntries r
def uptoBulkEntry {H : Type} : Lit × DataW H → Nat
  | (.string bytes, d) => bytes.length + uptoBulk d + 1
  | (_, d) => uptoBulk d + 1
 end
def uptoSmall : (H : Type) → List (DataW H) → Bool := fun _ ds => decide (uptoBulkAll ds ≤ 1048576)
def OpenSpec.upto (s : _root_.Go.ChangeSpec) : _root_.Go.OpenSpec := { _root_.Go.OpenSpec.ofChange s with cond := some uptoSmall }

/-- 'freeboardlaw01.PolyNames', WHERE WHAT IT READS IS OF BULK AT MOST 1048576: true; the input reads as it did. -/
def polyNamesUptoRow : OpenClaim := { program := "ytnlabkkodilppaa", sum := "162acf149bb4a875ffcc31537afb58845ef88bbf23f89a66d3d11b3a0cd7cd1c", func := "freeboard/freeboardlaw01.PolyNames", spec := "polyNames", apart := false, narrowed := true }
def PolyNamesUptoSaid : Prop := polyNamesUptoRow.holds Try.pinned (OpenSpec.upto polyNamesSpec)

/-- 'freeboardlaw01.PolyTells', WHERE WHAT IT READS IS OF BULK AT MOST 1048576: true; the input reads as it did. -/
def polyTellsUptoRow : OpenClaim := { program := "ytnlabkkodilppaa", sum := "162acf149bb4a875ffcc31537afb58845ef88bbf23f89a66d3d11b3a0cd7cd1c", func := "freeboard/freeboardlaw01.PolyTells", spec := "polyTells", apart := false, narrowed := true }
def PolyTellsUptoSaid : Prop := polyTellsUptoRow.holds Try.pinned (OpenSpec.upto polyTellsSpec)

/-- 'freeboardlaw01.PolyOn', WHERE WHAT IT READS IS OF BULK AT MOST 1048576: true; the input reads as it did. -/
def polyOnUptoRow : OpenClaim := { program := "ytnlabkkodilppaa", sum := "162acf149bb4a875ffcc31537afb58845ef88bbf23f89a66d3d11b3a0cd7cd1c", func := "freeboard/freeboardlaw01.PolyOn", spec := "polyOn", apart := false, narrowed := true }
def PolyOnUptoSaid : Prop := polyOnUptoRow.holds Try.pinned (OpenSpec.upto polyOnSpec)

/-- 'freeboardlaw01.PolyTurns', WHERE WHAT IT READS IS OF BULK AT MOST 1048576: true; the input reads as it did. -/
def polyTurnsUptoRow : OpenClaim := { program := "ytnlabkkodilppaa", sum := "162acf149bb4a875ffcc31537afb58845ef88bbf23f89a66d3d11b3a0cd7cd1c", func := "freeboard/freeboardlaw01.PolyTurns", spec := "polyTurns", apart := false, narrowed := true }
def PolyTurnsUptoSaid : Prop := polyTurnsUptoRow.holds Try.pinned (OpenSpec.upto polyTurnsSpec)

/-- 'freeboardlaw01.PolyApart', WHERE WHAT IT READS IS OF BULK AT MOST 1048576: true; the input reads as it did. -/
def polyApartUptoRow : OpenClaim := { program := "ytnlabkkodilppaa", sum := "162acf149bb4a875ffcc31537afb58845ef88bbf23f89a66d3d11b3a0cd7cd1c", func := "freeboard/freeboardlaw01.PolyApart", spec := "polyApart", apart := false, narrowed := true }
def PolyApartUptoSaid : Prop := polyApartUptoRow.holds Try.pinned (OpenSpec.upto polyApartSpec)

/-- 'freeboardlaw01.PolySelf', WHERE WHAT IT READS IS OF BULK AT MOST 1048576: true; the input reads as it did. -/
def polySelfUptoRow : OpenClaim := { program := "ytnlabkkodilppaa", sum := "162acf149bb4a875ffcc31537afb58845ef88bbf23f89a66d3d11b3a0cd7cd1c", func := "freeboard/freeboardlaw01.PolySelf", spec := "polySelf", apart := false, narrowed := true }
def PolySelfUptoSaid : Prop := polySelfUptoRow.holds Try.pinned (OpenSpec.upto polySelfSpec)

/-- 'freeboardlaw01.PolyThree', WHERE WHAT IT READS IS OF BULK AT MOST 1048576: true; the input reads as it did. -/
def polyThreeUptoRow : OpenClaim := { program := "ytnlabkkodilppaa", sum := "162acf149bb4a875ffcc31537afb58845ef88bbf23f89a66d3d11b3a0cd7cd1c", func := "freeboard/freeboardlaw01.PolyThree", spec := "polyThree", apart := false, narrowed := true }
def PolyThreeUptoSaid : Prop := polyThreeUptoRow.holds Try.pinned (OpenSpec.upto polyThreeSpec)

end Rows
end Go.Proofs.Ytnlabkkodilppaa
