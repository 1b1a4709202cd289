/- Layer 7 (turn): plain laws for the outright statements. -/
import Derived.Test.YtdeffbhkmmppmaaTurnPlain
namespace Go.Proofs.Ytdeffbhkmmppmaa

def backB (m row o : Nat) : Bool :=
  decide (((m : Int) - 1 - (row : Int) % (m : Int) + 1 + ((o : Int) + (m : Int) - ((m : Int) - 1 - (row : Int) % (m : Int)) - 1) % (m : Int)) % (m : Int) = (o : Int)) &&
  (decide (((o : Int) + (m : Int) - ((m : Int) - 1 - (row : Int) % (m : Int)) - 1) % (m : Int) = (m : Int) - 1) == decide ((m : Int) - 1 - (row : Int) % (m : Int) = (o : Int)))
theorem nat_back : ∀ m : Nat, m < 17 → 3 ≤ m → ∀ row : Nat, row < 8 → ∀ o : Nat, o < m → backB m row o = true := by decide +kernel
def roundB (m row i : Nat) : Bool := decide ((m : Int) - 1 - ((row : Int) + (i : Int)) % (m : Int) = (m : Int) - 1 - (row : Int) % (m : Int)) == decide ((i : Int) % (m : Int) = 0)
theorem nat_round : ∀ m : Nat, m < 17 → 3 ≤ m → ∀ row : Nat, row < 8 → ∀ i : Nat, i < 8 → roundB m row i = true := by decide +kernel

theorem back_on {m row o : Int} (hm : 3 ≤ m ∧ m ≤ 16) (hr : 0 ≤ row ∧ row < 8) (ho : 0 ≤ o ∧ o < m) :
    (m - 1 - row % m + 1 + (o + m - (m - 1 - row % m) - 1) % m) % m = o ∧ ((o + m - (m - 1 - row % m) - 1) % m = m - 1 ↔ m - 1 - row % m = o) := by
  obtain ⟨m, rfl⟩ := nat_of (show 0 ≤ m by omega)
  obtain ⟨row, rfl⟩ := nat_of hr.1
  obtain ⟨o, rfl⟩ := nat_of ho.1
  have h := nat_back m (by omega) (by omega) row (by omega) o (by omega)
  unfold backB at h
  simp only [Bool.and_eq_true, decide_eq_true_eq] at h
  exact ⟨h.1, decide_eq_decide.1 (eq_of_beq h.2)⟩
theorem round_on {m row i : Int} (hm : 3 ≤ m ∧ m ≤ 16) (hr : 0 ≤ row ∧ row < 8) (hi : 0 ≤ i ∧ i < 8) : m - 1 - (row + i) % m = m - 1 - row % m ↔ i % m = 0 := by
  obtain ⟨m, rfl⟩ := nat_of (show 0 ≤ m by omega)
  obtain ⟨row, rfl⟩ := nat_of hr.1
  obtain ⟨i, rfl⟩ := nat_of hi.1
  have h := nat_round m (by omega) (by omega) row (by omega) i (by omega)
  unfold roundB at h
  exact decide_eq_decide.1 (eq_of_beq h)

/-- the member of a block's chunk -/
theorem member_chunk {m q : Int} (hm : 3 ≤ m ∧ m ≤ 16) (hr : 0 ≤ q / (m - 1) ∧ q / (m - 1) < 8) : (m - 1 - q / (m - 1) % m + 1 + q % (m - 1)) % m = q % m := by
  rw [member_on hm hr ⟨Int.emod_nonneg _ (by omega), Int.emod_lt_of_pos _ (by omega)⟩]
  have := Int.mul_ediv_add_emod q (m - 1)
  rw [Int.mul_comm] at this
  rw [this]

/-- the next block -/
theorem next_div {b c : Int} (hc : 1 ≤ c) : ((b + 1) % c = 0 → (b + 1) / c = b / c + 1) ∧ ((b + 1) % c ≠ 0 → (b + 1) / c = b / c ∧ (b + 1) % c = b % c + 1) := by
  have h1 : 0 ≤ b % c := Int.emod_nonneg _ (by omega)
  have h2 : b % c < c := Int.emod_lt_of_pos _ (by omega)
  have e : b + 1 = b % c + 1 + b / c * c := by
    have := Int.mul_ediv_add_emod b c
    rw [Int.mul_comm] at this
    omega
  have e1 : (b + 1) / c = (b % c + 1) / c + b / c := by rw [e, Int.add_mul_ediv_right _ _ (by omega)]
  have e2 : (b + 1) % c = (b % c + 1) % c := by rw [e, Int.add_mul_emod_self_right]
  rcases (show b % c + 1 = c ∨ b % c + 1 < c by omega) with h | h
  · refine ⟨fun _ => ?_, fun hne => ?_⟩
    · rw [e1, h, Int.ediv_self (by omega)]; omega
    · rw [e2, h, Int.emod_self] at hne; exact absurd rfl hne
  · refine ⟨fun h0 => ?_, fun _ => ?_⟩
    · rw [e2, Int.emod_eq_of_lt (by omega) h] at h0; omega
    · rw [e1, e2, Int.emod_eq_of_lt (by omega) h, Int.ediv_eq_zero_of_lt (by omega) h]; omega
theorem mod_succ (q m : Int) : (q % m + 1) % m = (q + 1) % m := by rw [Int.emod_add_emod]

/-- stripes in a row -/
theorem row_plus {s c i : Int} (hc : 1 ≤ c) : (s + i * c) / c = s / c + i := Int.add_mul_ediv_right _ _ (by omega)
theorem row_first {s c : Int} (hc : 1 ≤ c) : s / c * c / c = s / c := Int.mul_ediv_cancel _ (by omega)
theorem row_le {s c : Int} (hc : 1 ≤ c) : s / c * c ≤ s := by
  have h1 : 0 ≤ s % c := Int.emod_nonneg _ (by omega)
  have := Int.mul_ediv_add_emod s c
  rw [Int.mul_comm] at this
  omega
end Go.Proofs.Ytdeffbhkmmppmaa
