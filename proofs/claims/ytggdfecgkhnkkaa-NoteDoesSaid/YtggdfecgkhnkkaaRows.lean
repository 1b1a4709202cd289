/-
  No cell of these rows narrows 'for every input' (looked for: loops, veiled, ifaces, maps, wideKeys, modest, calm, conditions, laid).
  DERIVED. THE GIVEN ROWS OF THIS SEAT. 6 by the template 'for every input the law returns true; each argument reads behind the call as it read before'; 0 by the template 'total and deterministic' (their statements: YtggdfecgkhnkkaaTotals.lean).
  GIVEN WITH THE SEED: the statements are not yours to turn. If you find one false, say at which input.
  Laid BY PROGRAM, IN A SANDBOX (cutbox-rows.mjs): the forced cells as the released guide's own fill.sh prints them over the translation 4ff71f0d50631453… (all of the seat's roots in one cut). By AI agents, Wed Nov 11 2026. No macro, syntax, notation, axiom, sorry.
-/
import Derived.Test.YtggdfecgkhnkkaaChecked
import GoSem.Claim
import GoSem.ClaimJoined
import GoSem.ClaimMapViews
import Derived.JoinedTies
import Derived.KernelRfl
namespace Go.Proofs.Ytggdfecgkhnkkaa
/- THE CELL 'sum', in the pinned program and in every row, IS THE sha256 OF THE DUMP (.gsa) THAT YtggdfecgkhnkkaaProg.lean LOADS. Nothing in Lean hashes anything: it is a label: what it is worth is what the hold of that sum in a sandbox is worth. -/
noncomputable def Try.pinned : Pinned := { name := "ytggdfecgkhnkkaa", sum := "4ff71f0d50631453fe7b70119d19d42c2d9aebfd5386b3644befdfec6cef0c66", checked := Try.checked }
namespace Rows
def none {H : Type} : Left H := { results := [], args := [] }

/-- 'freeboardlaw11.NoteSlots': WHATEVER THE INPUT: true; the input reads as it did. -/
def noteSlotsSpec : ChangeSpec := { name := "noteSlots", fn := fun _ => fun
  | [d1, d2] => { results := [.lit (.bool true)], args := [d1, d2] }
  | _ => none }
def noteSlotsRow : OpenClaim := { program := "ytggdfecgkhnkkaa", sum := "4ff71f0d50631453fe7b70119d19d42c2d9aebfd5386b3644befdfec6cef0c66", func := "freeboard/freeboardlaw11.NoteSlots", spec := "noteSlots", unfollowed := true, recurses := true, apart := false }
def NoteSlotsSaid : Prop := noteSlotsRow.holds Try.pinned (OpenSpec.ofChange noteSlotsSpec)

/-- ITS FALSE NEIGHBOUR: 'it returns false'. Refute it at one input. -/
def noteSlotsWrong : ChangeSpec := { name := "noteSlots", fn := fun _ => fun
  | [d1, d2] => { results := [.lit (.bool false)], args := [d1, d2] }
  | _ => none }
def NoteSlotsWrongFalsely : Prop := noteSlotsRow.holds Try.pinned (OpenSpec.ofChange noteSlotsWrong)

/-- 'freeboardlaw11.NoteUnlike': WHATEVER THE INPUT: true; the input reads as it did. -/
def noteUnlikeSpec : ChangeSpec := { name := "noteUnlike", fn := fun _ => fun
  | [d1, d2] => { results := [.lit (.bool true)], args := [d1, d2] }
  | _ => none }
def noteUnlikeRow : OpenClaim := { program := "ytggdfecgkhnkkaa", sum := "4ff71f0d50631453fe7b70119d19d42c2d9aebfd5386b3644befdfec6cef0c66", func := "freeboard/freeboardlaw11.NoteUnlike", spec := "noteUnlike", unfollowed := true, recurses := true, apart := false }
def NoteUnlikeSaid : Prop := noteUnlikeRow.holds Try.pinned (OpenSpec.ofChange noteUnlikeSpec)

/-- ITS FALSE NEIGHBOUR: 'it returns false'. Refute it at one input. -/
def noteUnlikeWrong : ChangeSpec := { name := "noteUnlike", fn := fun _ => fun
  | [d1, d2] => { results := [.lit (.bool false)], args := [d1, d2] }
  | _ => none }
def NoteUnlikeWrongFalsely : Prop := noteUnlikeRow.holds Try.pinned (OpenSpec.ofChange noteUnlikeWrong)

/-- 'freeboardlaw11.NoteTurns': WHATEVER THE INPUT: true; the input reads as it did. -/
def noteTurnsSpec : ChangeSpec := { name := "noteTurns", fn := fun _ => fun
  | [d1, d2, d3] => { results := [.lit (.bool true)], args := [d1, d2, d3] }
  | _ => none }
def noteTurnsRow : OpenClaim := { program := "ytggdfecgkhnkkaa", sum := "4ff71f0d50631453fe7b70119d19d42c2d9aebfd5386b3644befdfec6cef0c66", func := "freeboard/freeboardlaw11.NoteTurns", spec := "noteTurns", unfollowed := true, recurses := true, apart := false }
def NoteTurnsSaid : Prop := noteTurnsRow.holds Try.pinned (OpenSpec.ofChange noteTurnsSpec)

/-- ITS FALSE NEIGHBOUR: 'it returns false'. Refute it at one input. -/
def noteTurnsWrong : ChangeSpec := { name := "noteTurns", fn := fun _ => fun
  | [d1, d2, d3] => { results := [.lit (.bool false)], args := [d1, d2, d3] }
  | _ => none }
def NoteTurnsWrongFalsely : Prop := noteTurnsRow.holds Try.pinned (OpenSpec.ofChange noteTurnsWrong)

/-- 'freeboardlaw11.NoteNames': WHATEVER THE INPUT: true; the input reads as it did. -/
def noteNamesSpec : ChangeSpec := { name := "noteNames", fn := fun _ => fun
  | [] => { results := [.lit (.bool true)], args := [] }
  | _ => none }
def noteNamesRow : OpenClaim := { program := "ytggdfecgkhnkkaa", sum := "4ff71f0d50631453fe7b70119d19d42c2d9aebfd5386b3644befdfec6cef0c66", func := "freeboard/freeboardlaw11.NoteNames", spec := "noteNames", unfollowed := true, recurses := true, apart := false }
def NoteNamesSaid : Prop := noteNamesRow.holds Try.pinned (OpenSpec.ofChange noteNamesSpec)

/-- ITS FALSE NEIGHBOUR: 'it returns false'. Refute it at one input. -/
def noteNamesWrong : ChangeSpec := { name := "noteNames", fn := fun _ => fun
  | [] => { results := [.lit (.bool false)], args := [] }
  | _ => none }
def NoteNamesWrongFalsely : Prop := noteNamesRow.holds Try.pinned (OpenSpec.ofChange noteNamesWrong)

/-- 'freeboardlaw11.NoteDoes': WHATEVER THE INPUT: true; the input reads as it did. -/
def noteDoesSpec : ChangeSpec := { name := "noteDoes", fn := fun _ => fun
  | [d1, d2, d3] => { results := [.lit (.bool true)], args := [d1, d2, d3] }
  | _ => none }
def noteDoesRow : OpenClaim := { program := "ytggdfecgkhnkkaa", sum := "4ff71f0d50631453fe7b70119d19d42c2d9aebfd5386b3644befdfec6cef0c66", func := "freeboard/freeboardlaw11.NoteDoes", spec := "noteDoes", unfollowed := true, recurses := true, apart := false }
def NoteDoesSaid : Prop := noteDoesRow.holds Try.pinned (OpenSpec.ofChange noteDoesSpec)

/-- ITS FALSE NEIGHBOUR: 'it returns false'. Refute it at one input. -/
def noteDoesWrong : ChangeSpec := { name := "noteDoes", fn := fun _ => fun
  | [d1, d2, d3] => { results := [.lit (.bool false)], args := [d1, d2, d3] }
  | _ => none }
def NoteDoesWrongFalsely : Prop := noteDoesRow.holds Try.pinned (OpenSpec.ofChange noteDoesWrong)

/-- 'freeboardlaw11.NoteBack': WHATEVER THE INPUT: true; the input reads as it did. -/
def noteBackSpec : ChangeSpec := { name := "noteBack", fn := fun _ => fun
  | [d1, d2] => { results := [.lit (.bool true)], args := [d1, d2] }
  | _ => none }
def noteBackRow : OpenClaim := { program := "ytggdfecgkhnkkaa", sum := "4ff71f0d50631453fe7b70119d19d42c2d9aebfd5386b3644befdfec6cef0c66", func := "freeboard/freeboardlaw11.NoteBack", spec := "noteBack", unfollowed := true, recurses := true, apart := false }
def NoteBackSaid : Prop := noteBackRow.holds Try.pinned (OpenSpec.ofChange noteBackSpec)

/-- ITS FALSE NEIGHBOUR: 'it returns false'. Refute it at one input. -/
def noteBackWrong : ChangeSpec := { name := "noteBack", fn := fun _ => fun
  | [d1, d2] => { results := [.lit (.bool false)], args := [d1, d2] }
  | _ => none }
def NoteBackWrongFalsely : Prop := noteBackRow.holds Try.pinned (OpenSpec.ofChange noteBackWrong)

/- THE SECOND FORM. 'bulk': how many values and letters a reading holds, each counted each time it is reached (what is shared counts as often as it is met; a slice's spare places count too). A statement '..UptoSaid' is the law's where the arguments, and the package variables that the reading takes, are together of bulk at most 1048576: NARROWER than '..Said'. Prove '..Said' where nothing that the law and all that it calls make is longer than what came in: it says more and counts as full. Else prove '..UptoSaid'. A law counts once. -/
mutual
def uptoBulk {H : Type} : DataW H → Nat
  | .lit (.string bytes) => bytes.length + 1
  | .lit _ => 1
  | .nil => 1
  | .ptr d => uptoBulk d + 1
  | .slice elems spare => uptoBulkAll elems + uptoBulkAll spare + 1
  | .agg parts => uptoBulkAll parts + 1
  | .iface _ d => uptoBulk d + 1
  | .map entries => uptoBulkEntries entries + 1
  | .held _ => 1
def uptoBulkAll {H : Type} : List (DataW H) → Nat
  | [] => 0
  | d :: r => uptoBulk d + uptoBulkAll r
def uptoBulkEntries {H : Type} : List (Lit × DataW H) → Nat
  | [] => 0
  | x :: r => uptoBulkEntry x + uptoBulkEntries r
def uptoBulkEntry {H : Type} : Lit × DataW H → Nat
  | (.string bytes, d) => bytes.length + uptoBulk d + 1
  | (_, d) => uptoBulk d + 1
 end
def uptoSmall : (H : Type) → List (DataW H) → Bool := fun _ ds => decide (uptoBulkAll ds ≤ 1048576)
def OpenSpec.upto (s : _root_.Go.ChangeSpec) : _root_.Go.OpenSpec := { _root_.Go.OpenSpec.ofChange s with cond := some uptoSmall }

/-- 'freeboardlaw11.NoteSlots', WHERE WHAT IT READS IS OF BULK AT MOST 1048576: true; the input reads as it did. -/
def noteSlotsUptoRow : OpenClaim := { program := "ytggdfecgkhnkkaa", sum := "4ff71f0d50631453fe7b70119d19d42c2d9aebfd5386b3644befdfec6cef0c66", func := "freeboard/freeboardlaw11.NoteSlots", spec := "noteSlots", unfollowed := true, recurses := true, apart := false, narrowed := true }
def NoteSlotsUptoSaid : Prop := noteSlotsUptoRow.holds Try.pinned (OpenSpec.upto noteSlotsSpec)

/-- 'freeboardlaw11.NoteUnlike', WHERE WHAT IT READS IS OF BULK AT MOST 1048576: true; the input reads as it did. -/
def noteUnlikeUptoRow : OpenClaim := { program := "ytggdfecgkhnkkaa", sum := "4ff71f0d50631453fe7b70119d19d42c2d9aebfd5386b3644befdfec6cef0c66", func := "freeboard/freeboardlaw11.NoteUnlike", spec := "noteUnlike", unfollowed := true, recurses := true, apart := false, narrowed := true }
def NoteUnlikeUptoSaid : Prop := noteUnlikeUptoRow.holds Try.pinned (OpenSpec.upto noteUnlikeSpec)

/-- 'freeboardlaw11.NoteTurns', WHERE WHAT IT READS IS OF BULK AT MOST 1048576: true; the input reads as it did. -/
def noteTurnsUptoRow : OpenClaim := { program := "ytggdfecgkhnkkaa", sum := "4ff71f0d50631453fe7b70119d19d42c2d9aebfd5386b3644befdfec6cef0c66", func := "freeboard/freeboardlaw11.NoteTurns", spec := "noteTurns", unfollowed := true, recurses := true, apart := false, narrowed := true }
def NoteTurnsUptoSaid : Prop := noteTurnsUptoRow.holds Try.pinned (OpenSpec.upto noteTurnsSpec)

/-- 'freeboardlaw11.NoteNames', WHERE WHAT IT READS IS OF BULK AT MOST 1048576: true; the input reads as it did. -/
def noteNamesUptoRow : OpenClaim := { program := "ytggdfecgkhnkkaa", sum := "4ff71f0d50631453fe7b70119d19d42c2d9aebfd5386b3644befdfec6cef0c66", func := "freeboard/freeboardlaw11.NoteNames", spec := "noteNames", unfollowed := true, recurses := true, apart := false, narrowed := true }
def NoteNamesUptoSaid : Prop := noteNamesUptoRow.holds Try.pinned (OpenSpec.upto noteNamesSpec)

/-- 'freeboardlaw11.NoteDoes', WHERE WHAT IT READS IS OF BULK AT MOST 1048576: true; the input reads as it did. -/
def noteDoesUptoRow : OpenClaim := { program := "ytggdfecgkhnkkaa", sum := "4ff71f0d50631453fe7b70119d19d42c2d9aebfd5386b3644befdfec6cef0c66", func := "freeboard/freeboardlaw11.NoteDoes", spec := "noteDoes", unfollowed := true, recurses := true, apart := false, narrowed := true }
def NoteDoesUptoSaid : Prop := noteDoesUptoRow.holds Try.pinned (OpenSpec.upto noteDoesSpec)

/-- 'freeboardlaw11.NoteBack', WHERE WHAT IT READS IS OF BULK AT MOST 1048576: true; the input reads as it did. -/
def noteBackUptoRow : OpenClaim := { program := "ytggdfecgkhnkkaa", sum := "4ff71f0d50631453fe7b70119d19d42c2d9aebfd5386b3644befdfec6cef0c66", func := "freeboard/freeboardlaw11.NoteBack", spec := "noteBack", unfollowed := true, recurses := true, apart := false, narrowed := true }
def NoteBackUptoSaid : Prop := noteBackUptoRow.holds Try.pinned (OpenSpec.upto noteBackSpec)

end Rows
end Go.Proofs.Ytggdfecgkhnkkaa
