/- Layer 8 (split): Check, Blocks and Touch, whatever comes in. -/
import Derived.Test.YtclbihcggjjgaaaSplit5
import Derived.Test.YtclbihcggjjgaaaData
namespace Go.Proofs.Ytclbihcggjjgaaa
open Go.RowKit
set_option linter.unusedSimpArgs false
set_option linter.unusedVariables false

theorem ask_open {w : World} {cs : List Value} {y : (Ty.st (.prod .byte (.prod .int (.prod .int (.prod (.sl .byte) .unit))))).T} (h : Reads w (Ty.st (.prod .byte (.prod .int (.prod .int (.prod (.sl .byte) .unit))))) y cs) :
    ∃ (k a y : Int) (A : Option Addr) (bs : List UInt8) (q : Nat), Value.agg cs.toArray = .agg #[.int .u8 k, .int .i64 a, .int .i64 y, .slice A bs.length q] ∧ (0 ≤ k ∧ k ≤ 255) ∧ IsInt a ∧ IsInt y ∧ bs.length ≤ q ∧ q ≤ maxLen ∧ Bs w A bs.length bs := by
  obtain ⟨k, a, y, d, u⟩ := y
  obtain ⟨c0, d0, rfl, r0, h⟩ := reads_prod.1 (reads_st.1 h)
  obtain ⟨c1, d1, rfl, r1, h⟩ := reads_prod.1 h
  obtain ⟨c2, d2, rfl, r2, h⟩ := reads_prod.1 h
  obtain ⟨c3, d3, rfl, r3, h⟩ := reads_prod.1 h
  obtain rfl := reads_unit.1 h
  obtain rfl := reads_byte.1 r0
  obtain ⟨rfl, i1⟩ := reads_int.1 r1
  obtain ⟨rfl, i2⟩ := reads_int.1 r2
  have hl := r3.len
  obtain ⟨v, rfl⟩ : ∃ v, c3 = [v] := by
    match c3, hl with
    | [v], _ => exact ⟨v, rfl⟩
  obtain ⟨A, q, rfl, hq, hm, hb⟩ := one_bytes r3
  exact ⟨(k.toNat : Int), a, y, A, d, q, rfl, ⟨by omega, by have := k.toNat_lt; omega⟩, i1, i2, hq, hm, hb⟩

/-- the error of a request -/
def askCode (x : Cfg) (k a y : Int) (n : Nat) : Int := if x.Ok then (if Placed (x.c * x.r * (x.m - 1)) k a y then (if (n : Int) = kWant k y then 0 else 3) else 2) else 8
theorem scheck_all (x : Cfg) (k a y : Int) (A : Option Addr) (n q : Nat) (w : World) :
    Calls Try.prog 47 #[x.val, .agg #[.int .u8 k, .int .i64 a, .int .i64 y, .slice A n q]] w fun e w' => e = .returned (.int .i64 (askCode x k a y n)) ∧ Below w.heap.size w w' := by
  unfold askCode
  split
  · rename_i hx
    split
    · rename_i hp
      split
      · rename_i hn; exact scheck_ok x hx k a y A n q hp hn w
      · rename_i hn; exact scheck_text x hx k a y A n q hp hn w
    · rename_i hp; exact scheck_arg x hx k a y A n q hp w
  · rename_i hx; exact scheck_bad x hx k a y A n q w
/-- what a request that may be has -/
theorem askCode_0 {x : Cfg} {k a y : Int} {n : Nat} (h : askCode x k a y n = 0) : x.Ok ∧ Placed (x.c * x.r * (x.m - 1)) k a y ∧ (n : Int) = kWant k y ∧ (0 ≤ y ∧ y ≤ 8) ∧ (0 ≤ a ∧ a ≤ 1000) ∧ (1 ≤ y ∨ kWrites k = false) := by
  unfold askCode at h
  split at h
  · rename_i hx
    split at h
    · rename_i hp
      split at h
      · rename_i hn
        have hcr := Cfg.crm hx
        refine ⟨hx, hp, hn, ?_, ?_, ?_⟩
        · unfold Placed at hp; omega
        · unfold Placed at hp; omega
        · rcases hp with h1 | h1
          · exact .inl h1.2.1
          · right
            rcases kMost_or k with h2 | h2
            · rw [h1.2.1] at h2; cases h2
            · exact h2.2.2
      · cases h
    · cases h
  · cases h
theorem askCode_ne (x : Cfg) (k a y : Int) (n : Nat) (h : askCode x k a y n ≠ 0) : (askCode x k a y n != 0) = true := by simpa using h

theorem touchB_comm (k1 a1 y1 k2 a2 y2 : Int) : touchB k1 a1 y1 k2 a2 y2 = touchB k2 a2 y2 k1 a1 y1 := by
  unfold touchB
  rw [Bool.or_comm]
  congr 1
  exact decide_eq_decide.2 (by omega)
theorem touchB_self (k a y : Int) (h : 1 ≤ y ∨ kWrites k = false) : touchB k a y k a y = kWrites k := by
  unfold touchB
  rw [Bool.or_self]
  rcases h with h | h
  · rw [decide_eq_true (by omega), Bool.and_true]
  · rw [h, Bool.false_and]
theorem touchB_read (k1 a1 y1 k2 a2 y2 : Int) (h1 : kWrites k1 = false) (h2 : kWrites k2 = false) : touchB k1 a1 y1 k2 a2 y2 = false := by
  unfold touchB; rw [h1, h2]; rfl
end Go.Proofs.Ytclbihcggjjgaaa
