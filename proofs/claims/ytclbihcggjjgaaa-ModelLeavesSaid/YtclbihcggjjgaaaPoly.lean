/- poly.Over, poly.Sum: what they compute. -/
import Derived.Test.YtclbihcggjjgaaaRows
import Derived.Test.YtclbihcggjjgaaaLib
import Derived.Test.YtclbihcggjjgaaaCrc
namespace Go.Proofs.Ytclbihcggjjgaaa
open Go.RowKit

def tabV : Array Value := #[.int .u32 0, .int .u32 274646895, .int .u32 549293790, .int .u32 820201905, .int .u32 1098587580, .int .u32 1361435347, .int .u32 1640403810, .int .u32 1905808397, .int .u32 2197175160, .int .u32 2460548119, .int .u32 2722870694, .int .u32 2987750089, .int .u32 3280807620, .int .u32 3553878443, .int .u32 3811616794, .int .u32 4084100981]
def zero16 : Array Value := #[.int .u32 0, .int .u32 0, .int .u32 0, .int .u32 0, .int .u32 0, .int .u32 0, .int .u32 0, .int .u32 0, .int .u32 0, .int .u32 0, .int .u32 0, .int .u32 0, .int .u32 0, .int .u32 0, .int .u32 0, .int .u32 0]
theorem tabV_at (i : Nat) (h : i < 16) : tabV[i]? = some (.int .u32 (Crc.W i : Int)) := by
  rcases i with _ | _ | _ | _ | _ | _ | _ | _ | _ | _ | _ | _ | _ | _ | _ | _ | i
  all_goals first | rfl | omega
theorem tabV_size : tabV.size = 16 := rfl
/-- the table, where it stands -/
theorem tab_cell (w : World) (t : TypeId) (i : Nat) (h : i < 16) : (w.alloc (.cells tabV t)).cell? ⟨w.heap.size, i, none⟩ = some (.int .u32 (Crc.W i : Int)) := by
  rw [World.cell?_alloc_mark, tabV_at i h]

theorem xor_u32 (a b : Nat) (ha : a < 2 ^ 32) (hb : b < 2 ^ 32) : bits .xor .u32 (a : Int) (b : Int) = ((a ^^^ b : Nat) : Int) := by
  have := u32_xor (a : Int) (b : Int) (by omega) (by omega) (by omega) (by omega)
  simpa using this

theorem and_u32 (a : Nat) (ha : a < 2 ^ 32) : bits .and .u32 (a : Int) 15 = ((a &&& 15 : Nat) : Int) := by
  have := u32_and (a : Int) 15 (by omega) (by omega) (by omega) (by omega)
  simpa using this

theorem neg_u32 (s : Nat) (hs : s < 2 ^ 32) : bits .xor .u32 IntKind.u32.max (s : Int) = ((Crc.neg s : Nat) : Int) := by
  have h := xor_u32 Crc.top s Crc.top_lt hs
  have e : IntKind.u32.max = ((Crc.top : Nat) : Int) := by decide
  rw [Crc.neg_def, ← h, ← e]
theorem u32_plain : IntKind.u32.signed = false := rfl

/-- one half byte, as the walk writes it -/
theorem half_u32 (y : Nat) (hy : y < 2 ^ 32) : bits .xor .u32 ((y : Int) / 16) ((Crc.W (y &&& 15) : Nat) : Int) = ((Crc.T y : Nat) : Int) := by
  have h1 := xor_u32 (y >>> 4) (Crc.W (y &&& 15)) (Nat.lt_of_le_of_lt (Nat.shiftRight_le _ _) hy) (Crc.W_lt _)
  have h2 : ((y >>> 4 : Nat) : Int) = (y : Int) / 16 := by rw [Nat.shiftRight_eq_div_pow]; omega
  rw [h2] at h1
  exact h1
theorem tab2 (w : World) (t : TypeId) (y : Nat) : ((w.alloc (.cells tabV t)).alloc (.cells tabV t)).cell? ⟨w.heap.size + 1, y &&& 15, none⟩ = some (.int .u32 (Crc.W (y &&& 15) : Int)) := by
  have := tab_cell (w.alloc (.cells tabV t)) t (y &&& 15) (Crc.and15 y)
  simpa using this

end Go.Proofs.Ytclbihcggjjgaaa
