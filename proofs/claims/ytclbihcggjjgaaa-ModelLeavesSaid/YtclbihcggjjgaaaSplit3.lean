/- Layer 8 (split): a request's blocks. -/
import Derived.Test.YtclbihcggjjgaaaSplitRef
import Derived.Test.YtclbihcggjjgaaaBox2
namespace Go.Proofs.Ytclbihcggjjgaaa
open Go.RowKit
set_option linter.unusedSimpArgs false
set_option linter.unusedVariables false

theorem info_int : ∃ i, Try.prog.info? 3 = some i ∧ i.zero = some (.int .i64 0) ∧ i.size = 1 ∧ i.bytes = 8 := info_parts (by kernel_rfl)

def seqI (a : Int) (k : Nat) : List Value := (List.range k).map fun (i : Nat) => Value.int .i64 (a + (i : Int))
theorem seqI_succ (a : Int) (k : Nat) : seqI a (k + 1) = seqI a k ++ [.int .i64 (a + (k : Int))] := by simp [seqI, List.range_succ]
theorem seqI_len (a : Int) (k : Nat) : (seqI a k).length = k := by simp [seqI]

end Go.Proofs.Ytclbihcggjjgaaa
