/- Layer 2 (pack): fits, Put, Take. -/
import Derived.Test.YtclbihcggjjgaaaPack
namespace Go.Proofs.Ytclbihcggjjgaaa
open Go.RowKit

/-- a block with a number's k lowest bytes at p -/
def putL (l : List UInt8) (p : Nat) : Nat → Nat → List UInt8
  | 0, _ => l
  | k + 1, n => (putL l p k n).set (p + k) (UInt8.ofNat (n / 256 ^ k))
/-- the number there, of k bytes -/
def takeN (l : List UInt8) (p : Nat) : Nat → Nat
  | 0 => 0
  | k + 1 => takeN l p k + (l.getD (p + k) 0).toNat * 256 ^ k
theorem putL_len (l : List UInt8) (p k n : Nat) : (putL l p k n).length = l.length := by
  induction k with
  | zero => rfl
  | succ k ih => simp [putL, ih]
theorem takeN_lt (l : List UInt8) (p k : Nat) : takeN l p k < 256 ^ k := by
  induction k with
  | zero => simp [takeN]
  | succ k ih =>
    have := (l.getD (p + k) 0).toNat_lt
    simp only [takeN]
    have h2 : (l.getD (p + k) 0).toNat * 256 ^ k ≤ 255 * 256 ^ k := Nat.mul_le_mul_right _ (by omega)
    rw [Nat.pow_succ]
    omega

def Fits (p k : Int) : Prop := 1 ≤ k ∧ k ≤ 4 ∧ 0 ≤ p ∧ p ≤ 128 - k
instance (p k : Int) : Decidable (Fits p k) := by unfold Fits; infer_instance
def fitsB (p k : Int) : Bool := decide (Fits p k)
theorem fitsB_yes {p k : Int} (h : Fits p k) : fitsB p k = true := decide_eq_true h
theorem fitsB_no {p k : Int} (h : ¬ Fits p k) : fitsB p k = false := decide_eq_false h

theorem or_i64 (a b k : Nat) (hk : k ≤ 24) (ha : a < 2 ^ k) (hb : b < 256) : bits .or .i64 (a : Int) (((b * 2 ^ k : Nat)) : Int) = ((a + b * 2 ^ k : Nat) : Int) := by
  have h2 : (2 : Nat) ^ k ≤ 2 ^ 24 := Nat.pow_le_pow_right (by decide) hk
  have h3 : b * 2 ^ k ≤ 255 * 2 ^ 24 := Nat.mul_le_mul (by omega) h2
  have e : a ||| b * 2 ^ k = a + b * 2 ^ k := by
    rw [Nat.or_comm, Nat.mul_comm, ← Nat.two_pow_add_eq_or_of_lt ha, Nat.add_comm]
  have o : ∀ x : Nat, x < 2 ^ 64 → (BitVec.ofInt 64 (x : Int)).toNat = x := fun x hx => by
    rw [BitVec.ofInt_natCast, BitVec.toNat_ofNat]; exact Nat.mod_eq_of_lt hx
  show IntKind.i64.wrap ((BitVec.ofInt 64 (a : Int) ||| BitVec.ofInt 64 ((b * 2 ^ k : Nat) : Int)).toNat : Int) = _
  have hlt : a + b * 2 ^ k < 2 ^ 32 := by omega
  rw [BitVec.toNat_or, o a (by omega), o _ (by omega), e]
  clear e o h2 h3 ha
  generalize a + b * 2 ^ k = x at hlt ⊢
  simp [IntKind.wrap, IntKind.bits, IntKind.signed]
  split <;> omega
theorem or_i64_0 (b : Nat) (hb : b < 256) : bits .or .i64 0 (b : Int) = (b : Int) := by
  have := or_i64 0 b 0 (by decide) (by decide) hb
  simpa using this

theorem takeN_one (l : List UInt8) (p : Nat) : takeN l p 1 = (l.getD p 0).toNat := by simp [takeN]

theorem pow_256 (k : Nat) : (256 : Int) ^ k = 2 ^ (8 * k) := by rw [Int.pow_mul]; rfl
theorem shr_no (k x : Int) (hk : 1 ≤ k) (h4 : k ≤ 4) (hx : (256 : Int) ^ k.toNat ≤ x) : (x / 2 ^ min (8 * k).toNat 64 != 0) = true := by
  rw [pow_256] at hx
  have e : min (8 * k).toNat 64 = 8 * k.toNat := by omega
  rw [e]
  have hp : (0 : Int) < 2 ^ (8 * k.toNat) := Int.pow_pos (by decide)
  have : 1 ≤ x / 2 ^ (8 * k.toNat) := by rw [Int.le_ediv_iff_mul_le hp]; omega
  simp
  omega
theorem shr_yes (k x : Nat) (hx : x < 256 ^ k) : ((x : Int) / 2 ^ (8 * k) != 0) = false := by
  have e : (2 : Int) ^ (8 * k) = ((256 ^ k : Nat) : Int) := by rw [← pow_256]; simp
  rw [e, ← Int.natCast_ediv, Nat.div_eq_of_lt hx]
  rfl
theorem shr_byte (j x : Nat) : (x : Int) / 2 ^ (8 * j) % 256 = ((UInt8.ofNat (x / 256 ^ j)).toNat : Int) := by
  have e : (2 : Int) ^ (8 * j) = ((256 ^ j : Nat) : Int) := by rw [← pow_256]; simp
  rw [e, ← Int.natCast_ediv]
  simp

end Go.Proofs.Ytclbihcggjjgaaa
