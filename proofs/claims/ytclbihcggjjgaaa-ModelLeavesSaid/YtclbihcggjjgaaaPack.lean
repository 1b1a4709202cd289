/- Layer 2 (pack): a block of 128 bytes in a box; whole, fits, Put, Take: what they compute. -/
import Derived.Test.YtclbihcggjjgaaaRows
import Derived.Test.YtclbihcggjjgaaaData
import Derived.Laws.CopyOwn
import Derived.Laws.ResultCell
namespace Go.Proofs.Ytclbihcggjjgaaa
open Go.RowKit

def zeros : List UInt8 := List.replicate 128 0
def rowV (l : List UInt8) : Array Value := (l.map byteV).toArray
def wholeL (l : List UInt8) : List UInt8 := if l = [] then zeros else l
theorem zeros_len : zeros.length = 128 := by simp [zeros]
theorem rowV_size (l : List UInt8) : (rowV l).size = l.length := by simp [rowV]
theorem rowV_toList (l : List UInt8) : (rowV l).toList = l.map byteV := by simp [rowV]
theorem rowV_one (l : List UInt8) : (rowV l).all (·.oneCell') = true := by
  simp only [rowV, List.all_toArray, List.all_eq_true]
  exact fun v hv => byteV_one l v hv
theorem wholeL_len {l : List UInt8} {n : Nat} (hl : l.length = n) (hn : n = 0 ∨ n = 128) : (wholeL l).length = 128 := by
  unfold wholeL
  split
  · exact zeros_len
  · rename_i h
    rcases hn with rfl | rfl
    · exact absurd (List.eq_nil_of_length_eq_zero hl) h
    · exact hl
theorem results_rowtmp {P : Program} {fn : Func} {p u : Tmp} {ty : TypeId} (h : fn.results = #[.cell p ty, .tmp u]) (tmps : Array Value) (w : World) (g : Nat) (t : TypeId) (cs : Array Value) (fr : Nat × Nat) (d : TypeDesc)
    (hp : tmps.getD p undef = .pointer (some ⟨g, 0, none⟩)) (hg : w.heap[g]? = some (.cells cs t fr))
    (hu : P.underlying ty = some d) (hd : (match d with | .struct _ | .array _ _ => true | _ => false) = true) (hi : (P.info? ty).map (·.size) = some cs.size) :
    (results fn tmps).run P w = .ok (.tuple #[.agg cs, tmps.getD u undef]) w := by
  rw [results_cell_tmp h, hp]
  simp [asAddr, run_loadVar_row w g t ty cs fr d hg hu hd hi, Result.andThen]

theorem splice_whole (bs : List UInt8) (h : bs.length = 0 ∨ bs.length = 128) : (splice (rowV zeros).toList 0 (bs.map byteV)).toArray = rowV (wholeL bs) := by
  rw [rowV_toList]
  unfold splice wholeL rowV
  rcases h with h | h
  · have : bs = [] := List.eq_nil_of_length_eq_zero h
    subst this
    simp
  · have hne : bs ≠ [] := by rintro rfl; simp at h
    have : (List.map byteV zeros).length = 128 := by rw [List.length_map, zeros_len]
    simp [hne, h, List.drop_of_length_le (Nat.le_of_eq this)]

end Go.Proofs.Ytclbihcggjjgaaa
