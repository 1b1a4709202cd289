/-
  No cell of these rows narrows 'for every input' (looked for: loops, veiled, ifaces, maps, wideKeys, modest, calm, conditions, laid).
  DERIVED. THE GIVEN ROWS OF THIS SEAT. 6 by the template 'for every input the law returns true; each argument reads behind the call as it read before'; 0 by the template 'total and deterministic' (their statements: YtclbihcggjjgaaaTotals.lean).
  GIVEN WITH THE SEED: the statements are not yours to turn. If you find one false, say at which input.
  Laid BY PROGRAM, IN A SANDBOX (cutbox-rows.mjs): the forced cells as the released guide's own fill.sh prints them over the translation 0490ecd22695498d… (all of the seat's roots in one cut). By AI agents, Wed Nov 11 2026. No macro, syntax, notation, axiom, sorry.
-/
import Derived.Test.YtclbihcggjjgaaaChecked
import GoSem.Claim
import GoSem.ClaimJoined
import GoSem.ClaimMapViews
import Derived.JoinedTies
import Derived.KernelRfl
namespace Go.Proofs.Ytclbihcggjjgaaa
/- THE CELL 'sum', in the pinned program and in every row, IS THE sha256 OF THE DUMP (.gsa) THAT YtclbihcggjjgaaaProg.lean LOADS. Nothing in Lean hashes anything: it is a label: what it is worth is what the hold of that sum in a sandbox is worth. -/
noncomputable def Try.pinned : Pinned := { name := "ytclbihcggjjgaaa", sum := "0490ecd22695498de412acca708a6b89ffc93e72e6b5302ce57390f4bec2cb68", checked := Try.checked }
namespace Rows
def none {H : Type} : Left H := { results := [], args := [] }

/-- 'freeboardlaw30.ModelLeaves': WHATEVER THE INPUT: true; the input reads as it did. -/
def modelLeavesSpec : ChangeSpec := { name := "modelLeaves", fn := fun _ => fun
  | [d1, d2, d3, d4, d5] => { results := [.lit (.bool true)], args := [d1, d2, d3, d4, d5] }
  | _ => none }
def modelLeavesRow : OpenClaim := { program := "ytclbihcggjjgaaa", sum := "0490ecd22695498de412acca708a6b89ffc93e72e6b5302ce57390f4bec2cb68", func := "freeboard/freeboardlaw30.ModelLeaves", spec := "modelLeaves", unfollowed := true, recurses := true, apart := false }
def ModelLeavesSaid : Prop := modelLeavesRow.holds Try.pinned (OpenSpec.ofChange modelLeavesSpec)

/-- ITS FALSE NEIGHBOUR: 'it returns false'. Refute it at one input. -/
def modelLeavesWrong : ChangeSpec := { name := "modelLeaves", fn := fun _ => fun
  | [d1, d2, d3, d4, d5] => { results := [.lit (.bool false)], args := [d1, d2, d3, d4, d5] }
  | _ => none }
def ModelLeavesWrongFalsely : Prop := modelLeavesRow.holds Try.pinned (OpenSpec.ofChange modelLeavesWrong)

/-- 'freeboardlaw30.ModelStays': WHATEVER THE INPUT: true; the input reads as it did. -/
def modelStaysSpec : ChangeSpec := { name := "modelStays", fn := fun _ => fun
  | [d1, d2, d3] => { results := [.lit (.bool true)], args := [d1, d2, d3] }
  | _ => none }
def modelStaysRow : OpenClaim := { program := "ytclbihcggjjgaaa", sum := "0490ecd22695498de412acca708a6b89ffc93e72e6b5302ce57390f4bec2cb68", func := "freeboard/freeboardlaw30.ModelStays", spec := "modelStays", unfollowed := true, recurses := true, apart := false }
def ModelStaysSaid : Prop := modelStaysRow.holds Try.pinned (OpenSpec.ofChange modelStaysSpec)

/-- ITS FALSE NEIGHBOUR: 'it returns false'. Refute it at one input. -/
def modelStaysWrong : ChangeSpec := { name := "modelStays", fn := fun _ => fun
  | [d1, d2, d3] => { results := [.lit (.bool false)], args := [d1, d2, d3] }
  | _ => none }
def ModelStaysWrongFalsely : Prop := modelStaysRow.holds Try.pinned (OpenSpec.ofChange modelStaysWrong)

/-- 'freeboardlaw30.ModelNames': WHATEVER THE INPUT: true; the input reads as it did. -/
def modelNamesSpec : ChangeSpec := { name := "modelNames", fn := fun _ => fun
  | [] => { results := [.lit (.bool true)], args := [] }
  | _ => none }
def modelNamesRow : OpenClaim := { program := "ytclbihcggjjgaaa", sum := "0490ecd22695498de412acca708a6b89ffc93e72e6b5302ce57390f4bec2cb68", func := "freeboard/freeboardlaw30.ModelNames", spec := "modelNames", unfollowed := true, recurses := true, apart := false }
def ModelNamesSaid : Prop := modelNamesRow.holds Try.pinned (OpenSpec.ofChange modelNamesSpec)

/-- ITS FALSE NEIGHBOUR: 'it returns false'. Refute it at one input. -/
def modelNamesWrong : ChangeSpec := { name := "modelNames", fn := fun _ => fun
  | [] => { results := [.lit (.bool false)], args := [] }
  | _ => none }
def ModelNamesWrongFalsely : Prop := modelNamesRow.holds Try.pinned (OpenSpec.ofChange modelNamesWrong)

/-- 'freeboardlaw30.ModelSure': WHATEVER THE INPUT: true; the input reads as it did. -/
def modelSureSpec : ChangeSpec := { name := "modelSure", fn := fun _ => fun
  | [d1, d2, d3, d4, d5] => { results := [.lit (.bool true)], args := [d1, d2, d3, d4, d5] }
  | _ => none }
def modelSureRow : OpenClaim := { program := "ytclbihcggjjgaaa", sum := "0490ecd22695498de412acca708a6b89ffc93e72e6b5302ce57390f4bec2cb68", func := "freeboard/freeboardlaw30.ModelSure", spec := "modelSure", unfollowed := true, recurses := true, apart := false }
def ModelSureSaid : Prop := modelSureRow.holds Try.pinned (OpenSpec.ofChange modelSureSpec)

/-- ITS FALSE NEIGHBOUR: 'it returns false'. Refute it at one input. -/
def modelSureWrong : ChangeSpec := { name := "modelSure", fn := fun _ => fun
  | [d1, d2, d3, d4, d5] => { results := [.lit (.bool false)], args := [d1, d2, d3, d4, d5] }
  | _ => none }
def ModelSureWrongFalsely : Prop := modelSureRow.holds Try.pinned (OpenSpec.ofChange modelSureWrong)

/-- 'freeboardlaw30.ModelGoes': WHATEVER THE INPUT: true; the input reads as it did. -/
def modelGoesSpec : ChangeSpec := { name := "modelGoes", fn := fun _ => fun
  | [d1, d2, d3, d4, d5] => { results := [.lit (.bool true)], args := [d1, d2, d3, d4, d5] }
  | _ => none }
def modelGoesRow : OpenClaim := { program := "ytclbihcggjjgaaa", sum := "0490ecd22695498de412acca708a6b89ffc93e72e6b5302ce57390f4bec2cb68", func := "freeboard/freeboardlaw30.ModelGoes", spec := "modelGoes", unfollowed := true, recurses := true, apart := false }
def ModelGoesSaid : Prop := modelGoesRow.holds Try.pinned (OpenSpec.ofChange modelGoesSpec)

/-- ITS FALSE NEIGHBOUR: 'it returns false'. Refute it at one input. -/
def modelGoesWrong : ChangeSpec := { name := "modelGoes", fn := fun _ => fun
  | [d1, d2, d3, d4, d5] => { results := [.lit (.bool false)], args := [d1, d2, d3, d4, d5] }
  | _ => none }
def ModelGoesWrongFalsely : Prop := modelGoesRow.holds Try.pinned (OpenSpec.ofChange modelGoesWrong)

/-- 'freeboardlaw30.ModelLast': WHATEVER THE INPUT: true; the input reads as it did. -/
def modelLastSpec : ChangeSpec := { name := "modelLast", fn := fun _ => fun
  | [d1, d2] => { results := [.lit (.bool true)], args := [d1, d2] }
  | _ => none }
def modelLastRow : OpenClaim := { program := "ytclbihcggjjgaaa", sum := "0490ecd22695498de412acca708a6b89ffc93e72e6b5302ce57390f4bec2cb68", func := "freeboard/freeboardlaw30.ModelLast", spec := "modelLast", unfollowed := true, recurses := true, apart := false }
def ModelLastSaid : Prop := modelLastRow.holds Try.pinned (OpenSpec.ofChange modelLastSpec)

/-- ITS FALSE NEIGHBOUR: 'it returns false'. Refute it at one input. -/
def modelLastWrong : ChangeSpec := { name := "modelLast", fn := fun _ => fun
  | [d1, d2] => { results := [.lit (.bool false)], args := [d1, d2] }
  | _ => none }
def ModelLastWrongFalsely : Prop := modelLastRow.holds Try.pinned (OpenSpec.ofChange modelLastWrong)

/- THE SECOND FORM. 'bulk': how many values and letters a reading holds, each counted each time it is reached (what is shared counts as often as it is met; a slice's spare places count too). A statement '..UptoSaid' is the law's where the arguments, and the package variables that the reading takes, are together of bulk at most 1048576: NARROWER than '..Said'. Prove '..Said' where nothing that the law and all that it calls make is longer than what came in: it says more and counts as full. Else prove '..UptoSaid'. A law counts once. -/
mutual
def uptoBulk {H : Type} : DataW H → Nat
  | .lit (.string bytes) => bytes.length + 1
  | .lit _ => 1
  | .nil => 1
  | .ptr d => uptoBulk d + 1
  | .slice elems spare => uptoBulkAll elems + uptoBulkAll spare + 1
  | .agg parts => uptoBulkAll parts + 1
  | .iface _ d => uptoBulk d + 1
  | .map entries => uptoBulkEntries entries + 1
  | .held _ => 1
def uptoBulkAll {H : Type} : List (DataW H) → Nat
  | [] => 0
  | d :: r => uptoBulk d + uptoBulkAll r
def uptoBulkEntries {H : Type} : List (Lit × DataW H) → Nat
  | [] => 0
  | x :: r => uptoBulkEntry x + uptoBulkEntries r
def uptoBulkEntry {H : Type} : Lit × DataW H → Nat
  | (.string bytes, d) => bytes.length + uptoBulk d + 1
  | (_, d) => uptoBulk d + 1
 end
def uptoSmall : (H : Type) → List (DataW H) → Bool := fun _ ds => decide (uptoBulkAll ds ≤ 1048576)
def OpenSpec.upto (s : _root_.Go.ChangeSpec) : _root_.Go.OpenSpec := { _root_.Go.OpenSpec.ofChange s with cond := some uptoSmall }

/-- 'freeboardlaw30.ModelLeaves', WHERE WHAT IT READS IS OF BULK AT MOST 1048576: true; the input reads as it did. -/
def modelLeavesUptoRow : OpenClaim := { program := "ytclbihcggjjgaaa", sum := "0490ecd22695498de412acca708a6b89ffc93e72e6b5302ce57390f4bec2cb68", func := "freeboard/freeboardlaw30.ModelLeaves", spec := "modelLeaves", unfollowed := true, recurses := true, apart := false, narrowed := true }
def ModelLeavesUptoSaid : Prop := modelLeavesUptoRow.holds Try.pinned (OpenSpec.upto modelLeavesSpec)

/-- 'freeboardlaw30.ModelStays', WHERE WHAT IT READS IS OF BULK AT MOST 1048576: true; the input reads as it did. -/
def modelStaysUptoRow : OpenClaim := { program := "ytclbihcggjjgaaa", sum := "0490ecd22695498de412acca708a6b89ffc93e72e6b5302ce57390f4bec2cb68", func := "freeboard/freeboardlaw30.ModelStays", spec := "modelStays", unfollowed := true, recurses := true, apart := false, narrowed := true }
def ModelStaysUptoSaid : Prop := modelStaysUptoRow.holds Try.pinned (OpenSpec.upto modelStaysSpec)

/-- 'freeboardlaw30.ModelNames', WHERE WHAT IT READS IS OF BULK AT MOST 1048576: true; the input reads as it did. -/
def modelNamesUptoRow : OpenClaim := { program := "ytclbihcggjjgaaa", sum := "0490ecd22695498de412acca708a6b89ffc93e72e6b5302ce57390f4bec2cb68", func := "freeboard/freeboardlaw30.ModelNames", spec := "modelNames", unfollowed := true, recurses := true, apart := false, narrowed := true }
def ModelNamesUptoSaid : Prop := modelNamesUptoRow.holds Try.pinned (OpenSpec.upto modelNamesSpec)

/-- 'freeboardlaw30.ModelSure', WHERE WHAT IT READS IS OF BULK AT MOST 1048576: true; the input reads as it did. -/
def modelSureUptoRow : OpenClaim := { program := "ytclbihcggjjgaaa", sum := "0490ecd22695498de412acca708a6b89ffc93e72e6b5302ce57390f4bec2cb68", func := "freeboard/freeboardlaw30.ModelSure", spec := "modelSure", unfollowed := true, recurses := true, apart := false, narrowed := true }
def ModelSureUptoSaid : Prop := modelSureUptoRow.holds Try.pinned (OpenSpec.upto modelSureSpec)

/-- 'freeboardlaw30.ModelGoes', WHERE WHAT IT READS IS OF BULK AT MOST 1048576: true; the input reads as it did. -/
def modelGoesUptoRow : OpenClaim := { program := "ytclbihcggjjgaaa", sum := "0490ecd22695498de412acca708a6b89ffc93e72e6b5302ce57390f4bec2cb68", func := "freeboard/freeboardlaw30.ModelGoes", spec := "modelGoes", unfollowed := true, recurses := true, apart := false, narrowed := true }
def ModelGoesUptoSaid : Prop := modelGoesUptoRow.holds Try.pinned (OpenSpec.upto modelGoesSpec)

/-- 'freeboardlaw30.ModelLast', WHERE WHAT IT READS IS OF BULK AT MOST 1048576: true; the input reads as it did. -/
def modelLastUptoRow : OpenClaim := { program := "ytclbihcggjjgaaa", sum := "0490ecd22695498de412acca708a6b89ffc93e72e6b5302ce57390f4bec2cb68", func := "freeboard/freeboardlaw30.ModelLast", spec := "modelLast", unfollowed := true, recurses := true, apart := false, narrowed := true }
def ModelLastUptoSaid : Prop := modelLastUptoRow.holds Try.pinned (OpenSpec.upto modelLastSpec)

end Rows
end Go.Proofs.Ytclbihcggjjgaaa
