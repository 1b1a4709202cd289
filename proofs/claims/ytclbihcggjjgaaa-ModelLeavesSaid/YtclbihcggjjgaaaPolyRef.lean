/- The reference's sums (freeboardref01): bit by bit, the same. -/
import Derived.Test.YtclbihcggjjgaaaPoly
namespace Go.Proofs.Ytclbihcggjjgaaa
open Go.RowKit

/-- so many bits -/
def Crc.bitN : Nat → Nat → Nat
  | 0, s => s
  | k + 1, s => Crc.bit (Crc.bitN k s)
theorem Crc.bit_lt (s : Nat) (h : s < 2 ^ 32) : Crc.bit s < 2 ^ 32 := by
  unfold Crc.bit
  split
  · exact Nat.xor_lt_two_pow (by omega) (by decide)
  · omega
theorem Crc.bitN_lt (k s : Nat) (h : s < 2 ^ 32) : Crc.bitN k s < 2 ^ 32 := by
  induction k with
  | zero => exact h
  | succ k ih => exact Crc.bit_lt _ ih
theorem neg_sub_u32 (s : Nat) (hs : s < 2 ^ 32) : (4294967295 : Int) - (s : Int) = ((Crc.neg s : Nat) : Int) := by
  rw [Crc.neg_sub s hs]
  omega

end Go.Proofs.Ytclbihcggjjgaaa
