/-
  No cell of these rows narrows 'for every input' (looked for: loops, veiled, ifaces, maps, wideKeys, modest, calm, conditions, laid).
  DERIVED. THE GIVEN ROWS OF THIS SEAT. 5 by the template 'for every input the law returns true; each argument reads behind the call as it read before'; 0 by the template 'total and deterministic' (their statements: YthapabjlhooglaaTotals.lean).
  GIVEN WITH THE SEED: the statements are not yours to turn. If you find one false, say at which input.
  Laid BY PROGRAM, IN A SANDBOX (cutbox-rows.mjs): the forced cells as the released guide's own fill.sh prints them over the translation f0ab86fdb5c29e53… (all of the seat's roots in one cut). By AI agents, Wed Nov 11 2026. No macro, syntax, notation, axiom, sorry.
-/
import Derived.Test.YthapabjlhooglaaChecked
import GoSem.Claim
import GoSem.ClaimJoined
import GoSem.ClaimMapViews
import Derived.JoinedTies
import Derived.KernelRfl
namespace Go.Proofs.Ythapabjlhooglaa
/- THE CELL 'sum', in the pinned program and in every row, IS THE sha256 OF THE DUMP (.gsa) THAT YthapabjlhooglaaProg.lean LOADS. Nothing in Lean hashes anything: it is a label: what it is worth is what the hold of that sum in a sandbox is worth. -/
noncomputable def Try.pinned : Pinned := { name := "ythapabjlhooglaa", sum := "f0ab86fdb5c29e53e21785a24a868d94c98bef5471490914b75773ed9b604ab1", checked := Try.checked }
namespace Rows
def none {H : Type} : Left H := { results := [], args := [] }

/-- 'freeboardlaw24.FlightAdds': WHATEVER THE INPUT: true; the input reads as it did. -/
def flightAddsSpec : ChangeSpec := { name := "flightAdds", fn := fun _ => fun
  | [d1, d2, d3, d4, d5, d6] => { results := [.lit (.bool true)], args := [d1, d2, d3, d4, d5, d6] }
  | _ => none }
def flightAddsRow : OpenClaim := { program := "ythapabjlhooglaa", sum := "f0ab86fdb5c29e53e21785a24a868d94c98bef5471490914b75773ed9b604ab1", func := "freeboard/freeboardlaw24.FlightAdds", spec := "flightAdds", unfollowed := true, recurses := true, apart := false }
def FlightAddsSaid : Prop := flightAddsRow.holds Try.pinned (OpenSpec.ofChange flightAddsSpec)

/-- ITS FALSE NEIGHBOUR: 'it returns false'. Refute it at one input. -/
def flightAddsWrong : ChangeSpec := { name := "flightAdds", fn := fun _ => fun
  | [d1, d2, d3, d4, d5, d6] => { results := [.lit (.bool false)], args := [d1, d2, d3, d4, d5, d6] }
  | _ => none }
def FlightAddsWrongFalsely : Prop := flightAddsRow.holds Try.pinned (OpenSpec.ofChange flightAddsWrong)

/-- 'freeboardlaw24.FlightNames': WHATEVER THE INPUT: true; the input reads as it did. -/
def flightNamesSpec : ChangeSpec := { name := "flightNames", fn := fun _ => fun
  | [] => { results := [.lit (.bool true)], args := [] }
  | _ => none }
def flightNamesRow : OpenClaim := { program := "ythapabjlhooglaa", sum := "f0ab86fdb5c29e53e21785a24a868d94c98bef5471490914b75773ed9b604ab1", func := "freeboard/freeboardlaw24.FlightNames", spec := "flightNames", inPlace := ["internal/bytealg.MakeNoZero"], unfollowed := true, recurses := true, apart := false }
def FlightNamesSaid : Prop := flightNamesRow.holds Try.pinned (OpenSpec.ofChange flightNamesSpec)

/-- ITS FALSE NEIGHBOUR: 'it returns false'. Refute it at one input. -/
def flightNamesWrong : ChangeSpec := { name := "flightNames", fn := fun _ => fun
  | [] => { results := [.lit (.bool false)], args := [] }
  | _ => none }
def FlightNamesWrongFalsely : Prop := flightNamesRow.holds Try.pinned (OpenSpec.ofChange flightNamesWrong)

/-- 'freeboardlaw24.FlightMay': WHATEVER THE INPUT: true; the input reads as it did. -/
def flightMaySpec : ChangeSpec := { name := "flightMay", fn := fun _ => fun
  | [d1, d2, d3, d4] => { results := [.lit (.bool true)], args := [d1, d2, d3, d4] }
  | _ => none }
def flightMayRow : OpenClaim := { program := "ythapabjlhooglaa", sum := "f0ab86fdb5c29e53e21785a24a868d94c98bef5471490914b75773ed9b604ab1", func := "freeboard/freeboardlaw24.FlightMay", spec := "flightMay", inPlace := ["internal/bytealg.MakeNoZero"], unfollowed := true, recurses := true, apart := false }
def FlightMaySaid : Prop := flightMayRow.holds Try.pinned (OpenSpec.ofChange flightMaySpec)

/-- ITS FALSE NEIGHBOUR: 'it returns false'. Refute it at one input. -/
def flightMayWrong : ChangeSpec := { name := "flightMay", fn := fun _ => fun
  | [d1, d2, d3, d4] => { results := [.lit (.bool false)], args := [d1, d2, d3, d4] }
  | _ => none }
def FlightMayWrongFalsely : Prop := flightMayRow.holds Try.pinned (OpenSpec.ofChange flightMayWrong)

/-- 'freeboardlaw24.FlightSure': WHATEVER THE INPUT: true; the input reads as it did. -/
def flightSureSpec : ChangeSpec := { name := "flightSure", fn := fun _ => fun
  | [d1, d2, d3, d4] => { results := [.lit (.bool true)], args := [d1, d2, d3, d4] }
  | _ => none }
def flightSureRow : OpenClaim := { program := "ythapabjlhooglaa", sum := "f0ab86fdb5c29e53e21785a24a868d94c98bef5471490914b75773ed9b604ab1", func := "freeboard/freeboardlaw24.FlightSure", spec := "flightSure", inPlace := ["internal/bytealg.MakeNoZero"], unfollowed := true, recurses := true, apart := false }
def FlightSureSaid : Prop := flightSureRow.holds Try.pinned (OpenSpec.ofChange flightSureSpec)

/-- ITS FALSE NEIGHBOUR: 'it returns false'. Refute it at one input. -/
def flightSureWrong : ChangeSpec := { name := "flightSure", fn := fun _ => fun
  | [d1, d2, d3, d4] => { results := [.lit (.bool false)], args := [d1, d2, d3, d4] }
  | _ => none }
def FlightSureWrongFalsely : Prop := flightSureRow.holds Try.pinned (OpenSpec.ofChange flightSureWrong)

/-- 'freeboardlaw24.FlightOrder': WHATEVER THE INPUT: true; the input reads as it did. -/
def flightOrderSpec : ChangeSpec := { name := "flightOrder", fn := fun _ => fun
  | [d1, d2] => { results := [.lit (.bool true)], args := [d1, d2] }
  | _ => none }
def flightOrderRow : OpenClaim := { program := "ythapabjlhooglaa", sum := "f0ab86fdb5c29e53e21785a24a868d94c98bef5471490914b75773ed9b604ab1", func := "freeboard/freeboardlaw24.FlightOrder", spec := "flightOrder", inPlace := ["internal/bytealg.MakeNoZero"], unfollowed := true, recurses := true, apart := false }
def FlightOrderSaid : Prop := flightOrderRow.holds Try.pinned (OpenSpec.ofChange flightOrderSpec)

/-- ITS FALSE NEIGHBOUR: 'it returns false'. Refute it at one input. -/
def flightOrderWrong : ChangeSpec := { name := "flightOrder", fn := fun _ => fun
  | [d1, d2] => { results := [.lit (.bool false)], args := [d1, d2] }
  | _ => none }
def FlightOrderWrongFalsely : Prop := flightOrderRow.holds Try.pinned (OpenSpec.ofChange flightOrderWrong)

/- THE SECOND FORM. 'bulk': how many values and letters a reading holds, each counted each time it is reached (what is shared counts as often as it is met; a slice's spare places count too). A statement '..UptoSaid' is the law's where the arguments, and the package variables that the reading takes, are together of bulk at most 1048576: NARROWER than '..Said'. Prove '..Said' where nothing that the law and all that it calls make is longer than what came in: it says more and counts as full. Else prove '..UptoSaid'. A law counts once. -/
mutual
def uptoBulk {H : Type} : DataW H → Nat
  | .lit (.string bytes) => bytes.length + 1
  | .lit _ => 1
  | .nil => 1
  | .ptr d => uptoBulk d + 1
  | .slice elems spare => uptoBulkAll elems + uptoBulkAll spare + 1
  | .agg parts => uptoBulkAll parts + 1
  | .iface _ d => uptoBulk d + 1
  | .map entries => uptoBulkEntries entries + 1
  | .held _ => 1
def uptoBulkAll {H : Type} : List (DataW H) → Nat
  | [] => 0
  | d :: r => uptoBulk d + uptoBulkAll r
def uptoBulkEntries {H : Type} : List (Lit × DataW H) → Nat
  | [] => 0
  | x :: r => uptoBulkEntry x + uptoBulkEntries r
def uptoBulkEntry {H : Type} : Lit × DataW H → Nat
  | (.string bytes, d) => bytes.length + uptoBulk d + 1
  | (_, d) => uptoBulk d + 1
 end
def uptoSmall : (H : Type) → List (DataW H) → Bool := fun _ ds => decide (uptoBulkAll ds ≤ 1048576)
def OpenSpec.upto (s : _root_.Go.ChangeSpec) : _root_.Go.OpenSpec := { _root_.Go.OpenSpec.ofChange s with cond := some uptoSmall }

/-- 'freeboardlaw24.FlightAdds', WHERE WHAT IT READS IS OF BULK AT MOST 1048576: true; the input reads as it did. -/
def flightAddsUptoRow : OpenClaim := { program := "ythapabjlhooglaa", sum := "f0ab86fdb5c29e53e21785a24a868d94c98bef5471490914b75773ed9b604ab1", func := "freeboard/freeboardlaw24.FlightAdds", spec := "flightAdds", unfollowed := true, recurses := true, apart := false, narrowed := true }
def FlightAddsUptoSaid : Prop := flightAddsUptoRow.holds Try.pinned (OpenSpec.upto flightAddsSpec)

/-- 'freeboardlaw24.FlightNames', WHERE WHAT IT READS IS OF BULK AT MOST 1048576: true; the input reads as it did. -/
def flightNamesUptoRow : OpenClaim := { program := "ythapabjlhooglaa", sum := "f0ab86fdb5c29e53e21785a24a868d94c98bef5471490914b75773ed9b604ab1", func := "freeboard/freeboardlaw24.FlightNames", spec := "flightNames", inPlace := ["internal/bytealg.MakeNoZero"], unfollowed := true, recurses := true, apart := false, narrowed := true }
def FlightNamesUptoSaid : Prop := flightNamesUptoRow.holds Try.pinned (OpenSpec.upto flightNamesSpec)

/-- 'freeboardlaw24.FlightMay', WHERE WHAT IT READS IS OF BULK AT MOST 1048576: true; the input reads as it did. -/
def flightMayUptoRow : OpenClaim := { program := "ythapabjlhooglaa", sum := "f0ab86fdb5c29e53e21785a24a868d94c98bef5471490914b75773ed9b604ab1", func := "freeboard/freeboardlaw24.FlightMay", spec := "flightMay", inPlace := ["internal/bytealg.MakeNoZero"], unfollowed := true, recurses := true, apart := false, narrowed := true }
def FlightMayUptoSaid : Prop := flightMayUptoRow.holds Try.pinned (OpenSpec.upto flightMaySpec)

/-- 'freeboardlaw24.FlightSure', WHERE WHAT IT READS IS OF BULK AT MOST 1048576: true; the input reads as it did. -/
def flightSureUptoRow : OpenClaim := { program := "ythapabjlhooglaa", sum := "f0ab86fdb5c29e53e21785a24a868d94c98bef5471490914b75773ed9b604ab1", func := "freeboard/freeboardlaw24.FlightSure", spec := "flightSure", inPlace := ["internal/bytealg.MakeNoZero"], unfollowed := true, recurses := true, apart := false, narrowed := true }
def FlightSureUptoSaid : Prop := flightSureUptoRow.holds Try.pinned (OpenSpec.upto flightSureSpec)

/-- 'freeboardlaw24.FlightOrder', WHERE WHAT IT READS IS OF BULK AT MOST 1048576: true; the input reads as it did. -/
def flightOrderUptoRow : OpenClaim := { program := "ythapabjlhooglaa", sum := "f0ab86fdb5c29e53e21785a24a868d94c98bef5471490914b75773ed9b604ab1", func := "freeboard/freeboardlaw24.FlightOrder", spec := "flightOrder", inPlace := ["internal/bytealg.MakeNoZero"], unfollowed := true, recurses := true, apart := false, narrowed := true }
def FlightOrderUptoSaid : Prop := flightOrderUptoRow.holds Try.pinned (OpenSpec.upto flightOrderSpec)

end Rows
end Go.Proofs.Ythapabjlhooglaa
