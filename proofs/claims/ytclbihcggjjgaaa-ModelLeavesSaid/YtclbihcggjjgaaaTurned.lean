/- Bytes side by side, turned by exclusive or: plain. -/
import Derived.Test.YtclbihcggjjgaaaLib
import Derived.Test.YtclbihcggjjgaaaCrc
namespace Go.Proofs.Ytclbihcggjjgaaa
open Go.RowKit

/-- so many bytes from a place on, turned -/
def turned (bs ys : List UInt8) (p : Nat) : Nat → List UInt8
  | 0 => bs
  | k + 1 => (turned bs ys p k).set (p + k) ((turned bs ys p k).getD (p + k) 0 ^^^ ys.getD k 0)
theorem turned_length (bs ys : List UInt8) (p k : Nat) : (turned bs ys p k).length = bs.length := by
  induction k with
  | zero => rfl
  | succ k ih => simp [turned, ih]
theorem split4 (bs : List UInt8) (p : Nat) (h : p + 4 ≤ bs.length) : ∃ l b0 b1 b2 b3 r, bs = l ++ [b0, b1, b2, b3] ++ r ∧ l.length = p := by
  refine ⟨bs.take p, bs[p], bs[p + 1], bs[p + 2], bs[p + 3], bs.drop (p + 4), ?_, by simp; omega⟩
  rw [List.append_assoc]
  conv => lhs; rw [← List.take_append_drop p bs]
  congr 1
  rw [List.drop_eq_getElem_cons (by omega), List.drop_eq_getElem_cons (by omega), List.drop_eq_getElem_cons (by omega), List.drop_eq_getElem_cons (by omega)]
  rfl
theorem turned_four (l r : List UInt8) (b0 b1 b2 b3 y0 y1 y2 y3 : UInt8) :
    turned (l ++ [b0, b1, b2, b3] ++ r) [y0, y1, y2, y3] l.length 4 = l ++ [b0 ^^^ y0, b1 ^^^ y1, b2 ^^^ y2, b3 ^^^ y3] ++ r := by
  simp [turned]
theorem turned_over (s : Nat) (hs : s < 2 ^ 32) (bs ys : List UInt8) (p : Nat) (h : p + 4 ≤ bs.length) (y0 y1 y2 y3 : UInt8) (hys : ys = [y0, y1, y2, y3]) (hy : ¬ (y0 = 0 ∧ y1 = 0 ∧ y2 = 0 ∧ y3 = 0)) :
    Crc.over s (turned bs ys p 4) ≠ Crc.over s bs := by
  subst hys
  obtain ⟨l, b0, b1, b2, b3, r, rfl, rfl⟩ := split4 bs p h
  rw [turned_four]
  intro e
  exact hy (Crc.over_turned s l r b0 b1 b2 b3 y0 y1 y2 y3 hs e.symm)
theorem turned_sum (bs ys : List UInt8) (p : Nat) (h : p + 4 ≤ bs.length) (y0 y1 y2 y3 : UInt8) (hys : ys = [y0, y1, y2, y3]) (hy : ¬ (y0 = 0 ∧ y1 = 0 ∧ y2 = 0 ∧ y3 = 0)) :
    Crc.sum (turned bs ys p 4) ≠ Crc.sum bs := turned_over 0 (by decide) bs ys p h y0 y1 y2 y3 hys hy

theorem u8_xor_b (a b : UInt8) : bits .xor .u8 (a.toNat : Int) (b.toNat : Int) = (((a ^^^ b : UInt8).toNat : Nat) : Int) := by
  have h1 := a.toNat_lt
  have h2 := b.toNat_lt
  have := u8_xor (a.toNat : Int) (b.toNat : Int) (by omega) (by omega) (by omega) (by omega)
  rw [this, UInt8.toNat_xor]
  simp

/-! ### two arrays of four held against each other -/
section
variable {P : Program}
theorem run_part_int (w : World) (e : TypeId) (k : IntKind) (he : P.underlying e = some (.int k)) (cs : Array Value) (off : Nat) (v : Value) (h : cs[off]? = some v) : (part e cs off).run P w = .ok v w := by
  simp [part, isAgg, run_underlying he, h]
theorem run_eq_arr4 (w : World) (d : Nat) (t e : TypeId) (i : TypeInfo) (k : IntKind) (a0 a1 a2 a3 b0 b1 b2 b3 : Int) (ht : P.underlying t = some (.array 4 e)) (he : P.underlying e = some (.int k)) (hi : P.info? e = some i) (hs : i.size = 1) :
    (Op.equalIn (d + 2) t (.agg #[.int k a0, .int k a1, .int k a2, .int k a3]) (.agg #[.int k b0, .int k b1, .int k b2, .int k b3])).run P w = .ok (a0 == b0 && (a1 == b1 && (a2 == b2 && a3 == b3))) w := by
  rw [Op.equalIn]
  have hp : ∀ w, ∀ x0 x1 x2 x3 : Int, (part e #[.int k x0, .int k x1, .int k x2, .int k x3] 0).run P w = .ok (.int k x0) w ∧ (part e #[.int k x0, .int k x1, .int k x2, .int k x3] 1).run P w = .ok (.int k x1) w ∧
      (part e #[.int k x0, .int k x1, .int k x2, .int k x3] 2).run P w = .ok (.int k x2) w ∧ (part e #[.int k x0, .int k x1, .int k x2, .int k x3] 3).run P w = .ok (.int k x3) w := fun w x0 x1 x2 x3 =>
    ⟨run_part_int w e k he _ _ _ rfl, run_part_int w e k he _ _ _ rfl, run_part_int w e k he _ _ _ rfl, run_part_int w e k he _ _ _ rfl⟩
  simp only [run_underlying ht, Sem.run_bind, Result.andThen_ok]
  simp [sizeOf, typeInfo, hi, hs, List.range', hp, run_equalIn_int w d e k k _ _ he]
  by_cases h0 : a0 = b0 <;> by_cases h1 : a1 = b1 <;> by_cases h2 : a2 = b2 <;> by_cases h3 : a3 = b3 <;> simp [h0, h1, h2, h3]
end
end Go.Proofs.Ytclbihcggjjgaaa
