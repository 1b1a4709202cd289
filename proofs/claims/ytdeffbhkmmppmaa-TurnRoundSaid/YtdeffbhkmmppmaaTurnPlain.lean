/- Layer 7 (turn): plain laws of where blocks stand. -/
namespace Go.Proofs.Ytdeffbhkmmppmaa

def sumOn (m row : Int) : Nat → Int
  | 0 => 0
  | k + 1 => sumOn m row k + (row * (m - 1) + (k : Int)) % m
theorem sumOn_bd (m row : Int) (hm : 0 < m) (k : Nat) : 0 ≤ sumOn m row k ∧ sumOn m row k ≤ m * k := by
  induction k with
  | zero => exact ⟨Int.le_refl _, by simp [sumOn]⟩
  | succ k ih =>
    have h1 : 0 ≤ (row * (m - 1) + (k : Int)) % m := Int.emod_nonneg _ (by omega)
    have h2 : (row * (m - 1) + (k : Int)) % m < m := Int.emod_lt_of_pos _ hm
    have e : m * ((k + 1 : Nat) : Int) = m * k + m := by rw [show ((k + 1 : Nat) : Int) = (k : Int) + 1 by omega, Int.mul_add, Int.mul_one]
    unfold sumOn
    rw [e]
    omega

theorem nat_sum : ∀ m : Nat, m < 17 → 3 ≤ m → ∀ row : Nat, row < 8 → (m : Int) * ((m : Int) - 1) / 2 - sumOn m row (m - 1) = (m : Int) - 1 - (row : Int) % (m : Int) := by decide +kernel
theorem nat_last : ∀ m : Nat, m < 17 → 3 ≤ m → ∀ row : Nat, row < 8 → ((m : Int) - 1 - (row : Int) % (m : Int) + 1 + ((m : Int) - 1)) % (m : Int) = (m : Int) - 1 - (row : Int) % (m : Int) := by decide +kernel
theorem nat_member : ∀ m : Nat, m < 17 → 3 ≤ m → ∀ row : Nat, row < 8 → ∀ k : Nat, k < m - 1 → ((m : Int) - 1 - (row : Int) % (m : Int) + 1 + (k : Int)) % (m : Int) = ((row : Int) * ((m : Int) - 1) + (k : Int)) % (m : Int) := by decide +kernel
def slotB (m row k o : Nat) : Bool := decide (((row : Int) * ((m : Int) - 1) + (k : Int)) % (m : Int) = (o : Int)) == decide ((k : Int) = ((o : Int) + (m : Int) - ((m : Int) - 1 - (row : Int) % (m : Int)) - 1) % (m : Int))
theorem nat_slot : ∀ m : Nat, m < 17 → 3 ≤ m → ∀ row : Nat, row < 8 → ∀ k : Nat, k < m - 1 → ∀ o : Nat, o < m → slotB m row k o = true := by decide +kernel

theorem nat_of {n : Int} (h : 0 ≤ n) : ∃ k : Nat, n = (k : Int) := ⟨n.toNat, by omega⟩
section
variable {m row : Int} (hm : 3 ≤ m ∧ m ≤ 16) (hr : 0 ≤ row ∧ row < 8)
include hm hr
theorem on_sum : m * (m - 1) / 2 - sumOn m row (m - 1).toNat = m - 1 - row % m := by
  obtain ⟨m, rfl⟩ := nat_of (show 0 ≤ m by omega)
  obtain ⟨row, rfl⟩ := nat_of hr.1
  have := nat_sum m (by omega) (by omega) row (by omega)
  rw [show ((m : Int) - 1).toNat = m - 1 by omega]
  exact this
theorem member_last : (m - 1 - row % m + 1 + (m - 1)) % m = m - 1 - row % m := by
  obtain ⟨m, rfl⟩ := nat_of (show 0 ≤ m by omega)
  obtain ⟨row, rfl⟩ := nat_of hr.1
  exact nat_last m (by omega) (by omega) row (by omega)
theorem member_on {k : Int} (hk : 0 ≤ k ∧ k < m - 1) : (m - 1 - row % m + 1 + k) % m = (row * (m - 1) + k) % m := by
  obtain ⟨m, rfl⟩ := nat_of (show 0 ≤ m by omega)
  obtain ⟨row, rfl⟩ := nat_of hr.1
  obtain ⟨k, rfl⟩ := nat_of hk.1
  exact nat_member m (by omega) (by omega) row (by omega) k (by omega)
theorem slot_on {k o : Int} (hk : 0 ≤ k ∧ k < m - 1) (ho : 0 ≤ o ∧ o < m) : (row * (m - 1) + k) % m = o ↔ k = (o + m - (m - 1 - row % m) - 1) % m := by
  obtain ⟨m, rfl⟩ := nat_of (show 0 ≤ m by omega)
  obtain ⟨row, rfl⟩ := nat_of hr.1
  obtain ⟨k, rfl⟩ := nat_of hk.1
  obtain ⟨o, rfl⟩ := nat_of ho.1
  have h := nat_slot m (by omega) (by omega) row (by omega) k (by omega) o (by omega)
  unfold slotB at h
  exact decide_eq_decide.1 (eq_of_beq h)
end

/-- a stripe's row -/
theorem row_lt {s c r : Int} (hc : 1 ≤ c) (hs : 0 ≤ s ∧ s < c * r) : 0 ≤ s / c ∧ s / c < r :=
  ⟨Int.ediv_nonneg hs.1 (by omega), Int.ediv_lt_of_lt_mul (by omega) (by rw [Int.mul_comm]; exact hs.2)⟩

/-- the block of a slot, and back -/
theorem at_inj {c m s k b : Int} (hc : 1 ≤ c) (hm : 3 ≤ m) (hk : 0 ≤ k ∧ k < m - 1) (h : (s / c * (m - 1) + k) * c + s % c = b) :
    b / c / (m - 1) * c + b % c = s ∧ b / c % (m - 1) = k := by
  have h1 : 0 ≤ s % c := Int.emod_nonneg _ (by omega)
  have h2 : s % c < c := Int.emod_lt_of_pos _ (by omega)
  have e1 : b / c = s / c * (m - 1) + k := by
    rw [← h, Int.add_comm, Int.add_mul_ediv_right _ _ (by omega), Int.ediv_eq_zero_of_lt h1 h2, Int.zero_add]
  have e2 : b % c = s % c := by
    rw [← h, Int.add_comm, Int.add_mul_emod_self_right, Int.emod_emod_of_dvd _ (Int.dvd_refl c)]
  have e3 : b / c / (m - 1) = s / c := by
    rw [e1, Int.add_comm, Int.add_mul_ediv_right _ _ (by omega), Int.ediv_eq_zero_of_lt hk.1 hk.2, Int.zero_add]
  have e4 : b / c % (m - 1) = k := by
    rw [e1, Int.add_comm, Int.add_mul_emod_self_right]
    exact Int.emod_eq_of_lt hk.1 hk.2
  refine ⟨?_, e4⟩
  rw [e3, e2]
  have := Int.mul_ediv_add_emod s c
  rw [Int.mul_comm]
  exact this
theorem spot_in {c r m b : Int} (hc : 1 ≤ c) (hm : 3 ≤ m) (hb : 0 ≤ b ∧ b < c * r * (m - 1)) :
    (0 ≤ b / c / (m - 1) * c + b % c ∧ b / c / (m - 1) * c + b % c < c * r) ∧ (0 ≤ b / c % (m - 1) ∧ b / c % (m - 1) < m - 1) ∧
    (b / c / (m - 1) * c + b % c) / c = b / c / (m - 1) ∧ (b / c / (m - 1) * c + b % c) % c = b % c ∧
    ((b / c / (m - 1) * c + b % c) / c * (m - 1) + b / c % (m - 1)) * c + (b / c / (m - 1) * c + b % c) % c = b := by
  have h1 : 0 ≤ b % c := Int.emod_nonneg _ (by omega)
  have h2 : b % c < c := Int.emod_lt_of_pos _ (by omega)
  have h3 : 0 ≤ b / c % (m - 1) := Int.emod_nonneg _ (by omega)
  have h4 : b / c % (m - 1) < m - 1 := Int.emod_lt_of_pos _ (by omega)
  have h5 : 0 ≤ b / c := Int.ediv_nonneg hb.1 (by omega)
  have h6 : 0 ≤ b / c / (m - 1) := Int.ediv_nonneg h5 (by omega)
  have e1 : (b / c / (m - 1) * c + b % c) / c = b / c / (m - 1) := by
    rw [Int.add_comm, Int.add_mul_ediv_right _ _ (by omega), Int.ediv_eq_zero_of_lt h1 h2, Int.zero_add]
  have e2 : (b / c / (m - 1) * c + b % c) % c = b % c := by
    rw [Int.add_comm, Int.add_mul_emod_self_right, Int.emod_emod_of_dvd _ (Int.dvd_refl c)]
  have h7 : b / c < r * (m - 1) := Int.ediv_lt_of_lt_mul (by omega) (by rw [Int.mul_comm, ← Int.mul_assoc]; exact hb.2)
  have h8 : b / c / (m - 1) < r := Int.ediv_lt_of_lt_mul (by omega) h7
  have h9 : b / c / (m - 1) * c ≤ (r - 1) * c := Int.mul_le_mul_of_nonneg_right (by omega) (by omega)
  have h10 : 0 ≤ b / c / (m - 1) * c := Int.mul_nonneg h6 (by omega)
  have h11 : (r - 1) * c = c * r - c := by rw [Int.sub_mul, Int.one_mul, Int.mul_comm]
  refine ⟨⟨by omega, by omega⟩, ⟨h3, h4⟩, e1, e2, ?_⟩
  rw [e1, e2]
  have e3 := Int.mul_ediv_add_emod (b / c) (m - 1)
  have e4 := Int.mul_ediv_add_emod b c
  rw [Int.mul_comm] at e3 e4
  rw [e3, e4]
end Go.Proofs.Ytdeffbhkmmppmaa
