/- Layer 8 (split): whether two requests touch. -/
import Derived.Test.YtclbihcggjjgaaaSplit3
import Derived.Maps.OwnOps
import Derived.Maps.Views
namespace Go.Proofs.Ytclbihcggjjgaaa
open Go.RowKit Go.Maps
set_option linter.unusedSimpArgs false
set_option linter.unusedVariables false

theorem lawI : Keyed Try.prog 3 := int_keyed Try.underlying3
theorem zeroI (w : World) : (zeroValue 3).run Try.prog w = .ok (.int .i64 0) w := by kernel_rfl

/-- the map behind k rounds -/
def mapB (a mark : Int) : Nat → DataW Unit
  | 0 => .map []
  | k + 1 => (mapB a mark k).put (.int .i64 (a + (k : Int))) (.lit (.int .i64 mark))
theorem mapB_is (a mark : Int) (k : Nat) : IsMap (mapB a mark k) := by
  induction k with
  | zero => exact isMap_empty
  | succ k ih => exact ih.put _ _
theorem mapB_at (a mark n : Int) (k : Nat) : (mapB a mark k).atKey (.int .i64 n) (.lit (.int .i64 0)) = .lit (.int .i64 (if a ≤ n ∧ n < a + (k : Int) then mark else 0)) := by
  induction k with
  | zero => rw [if_neg (by omega)]; rfl
  | succ k ih =>
    unfold mapB
    by_cases h : n = a + (k : Int)
    · subst h
      rw [atKey_put_same (k := .int .i64 (a + (k : Int))) (mapB_is a mark k) (show True from trivial), if_pos (by omega)]
    · rw [atKey_put_other (by simp; exact h), ih]
      congr 3
      exact propext (by omega)

theorem mapB_hit {a mark n c : Int} {k : Nat} (hat : (mapB a mark k).atKey (.int .i64 n) (.lit (.int .i64 0)) = .lit (.int .i64 c)) (h : a ≤ n ∧ n < a + (k : Int)) : c = mark := by
  rw [mapB_at, if_pos h] at hat
  simpa using hat.symm
theorem mapB_miss {a mark n c : Int} {k : Nat} (hat : (mapB a mark k).atKey (.int .i64 n) (.lit (.int .i64 0)) = .lit (.int .i64 c)) (h : ¬ (a ≤ n ∧ n < a + (k : Int))) : c = 0 := by
  rw [mapB_at, if_neg h] at hat
  simpa using hat.symm
theorem ret_bool2 {a b : Bool} (h : a = b) (n : Int) : Ending.returned (.tuple #[.bool a, .int .i64 n]) = .returned (.tuple #[.bool b, .int .i64 n]) := by rw [h]

def touchB (k1 a1 y1 k2 a2 y2 : Int) : Bool := (kWrites k1 || kWrites k2) && decide (0 < y1 ∧ 0 < y2 ∧ a1 < a2 + y2 ∧ a2 < a1 + y1)

theorem rd_seq {w : World} {A : Option Addr} {a : Int} {n : Nat} (h : Rd w A (seqI a n)) : n = 0 ∨ ∃ b off, A = some ⟨b, off, none⟩ ∧ ∀ j, j < n → w.cell? ⟨b, off + j, none⟩ = some (.int .i64 (a + (j : Int))) := by
  rcases h with h | ⟨b, off, hA, hc⟩
  · left
    have := congrArg List.length h
    rwa [seqI_len] at this
  · refine .inr ⟨b, off, hA, fun j hj => ?_⟩
    rw [hc j (by rw [seqI_len]; exact hj)]
    simp [seqI, hj]

end Go.Proofs.Ytclbihcggjjgaaa
