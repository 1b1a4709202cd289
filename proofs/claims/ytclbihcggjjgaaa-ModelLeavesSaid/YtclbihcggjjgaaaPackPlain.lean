/- Plain laws of numbers in a block. -/
import Derived.Test.YtclbihcggjjgaaaPack2
namespace Go.Proofs.Ytclbihcggjjgaaa

theorem getD_putL (l : List UInt8) (p k x : Nat) (hp : p + k ≤ l.length) (i : Nat) : (putL l p k x).getD i 0 = if p ≤ i ∧ i < p + k then UInt8.ofNat (x / 256 ^ (i - p)) else l.getD i 0 := by
  induction k with
  | zero => rw [if_neg (by omega)]; rfl
  | succ k ih =>
    have ih := ih (by omega)
    simp only [putL]
    by_cases h : i = p + k
    · subst h
      rw [if_pos (by omega), show p + k - p = k by omega]
      rw [List.getD_eq_getElem?_getD, List.getElem?_set_self (by rw [putL_len]; omega)]
      rfl
    · rw [List.getD_eq_getElem?_getD, List.getElem?_set_ne (by omega), ← List.getD_eq_getElem?_getD, ih]
      by_cases h2 : p ≤ i ∧ i < p + k
      · rw [if_pos h2, if_pos (by omega)]
      · rw [if_neg h2, if_neg (by omega)]
theorem ext_getD (l m : List UInt8) (hl : l.length = m.length) (h : ∀ i, l.getD i 0 = m.getD i 0) : l = m := by
  apply List.ext_getElem hl
  intro i h1 h2
  have := h i
  simpa [h1, h2] using this
theorem takeN_of (l : List UInt8) (p k x : Nat) (h : ∀ j, j < k → l.getD (p + j) 0 = UInt8.ofNat (x / 256 ^ j)) : takeN l p k = x % 256 ^ k := by
  induction k with
  | zero => simp [takeN, Nat.mod_one]
  | succ k ih =>
    simp only [takeN]
    rw [ih (fun j hj => h j (by omega)), h k (by omega), Nat.mod_pow_succ, Nat.mul_comm]
    simp
theorem takeN_put (l : List UInt8) (p k x : Nat) (hp : p + k ≤ l.length) (hx : x < 256 ^ k) : takeN (putL l p k x) p k = x := by
  rw [takeN_of _ p k x, Nat.mod_eq_of_lt hx]
  intro j hj
  rw [getD_putL l p k x hp, if_pos (by omega), show p + j - p = j by omega]
theorem takeN_byte (l : List UInt8) (p k j : Nat) (hj : j < k) : UInt8.ofNat (takeN l p k / 256 ^ j) = l.getD (p + j) 0 := by
  induction k with
  | zero => omega
  | succ k ih =>
    simp only [takeN]
    apply UInt8.toNat_inj.1
    by_cases h : j = k
    · subst h
      rw [Nat.add_mul_div_right _ _ (Nat.pow_pos (by decide)), Nat.div_eq_of_lt (takeN_lt l p j)]
      simp
    · have ih := congrArg UInt8.toNat (ih (by omega))
      rw [← ih]
      simp only [UInt8.toNat_ofNat']
      have e0 : ∀ x d : Nat, x * 256 ^ (j + d + 1) = 256 ^ j * ((x * 256 ^ d) * 256) := by
        intro x d
        rw [Nat.pow_succ, Nat.pow_add]
        ac_rfl
      have e := e0 (l.getD (p + k) 0).toNat (k - j - 1)
      rw [show j + (k - j - 1) + 1 = k by omega] at e
      rw [e, Nat.add_mul_div_left _ _ (Nat.pow_pos (by decide))]
      simp
/-- what is taken, put where it was, changes nothing -/
theorem put_take (l : List UInt8) (p k x : Nat) (hp : p + k ≤ l.length) : putL (putL l p k x) p k (takeN l p k) = l := by
  refine ext_getD _ _ (by rw [putL_len, putL_len]) fun i => ?_
  rw [getD_putL _ _ _ _ (by rw [putL_len]; exact hp)]
  split
  · rename_i h
    rw [takeN_byte l p k (i - p) (by omega), show p + (i - p) = i by omega]
  · rename_i h
    rw [getD_putL _ _ _ _ hp, if_neg h]
theorem put_twice (l : List UInt8) (p k x y : Nat) (hp : p + k ≤ l.length) : putL (putL l p k x) p k y = putL l p k y := by
  refine ext_getD _ _ (by rw [putL_len, putL_len, putL_len]) fun i => ?_
  rw [getD_putL (putL l p k x) p k y (by rw [putL_len]; exact hp), getD_putL l p k x hp, getD_putL l p k y hp]
  by_cases h : p ≤ i ∧ i < p + k
  · simp only [if_pos h]
  · simp only [if_neg h]
theorem put_apart (l : List UInt8) (p k x q m y : Nat) (hp : p + k ≤ l.length) (hq : q + m ≤ l.length) (h : p + k ≤ q ∨ q + m ≤ p) : putL (putL l p k x) q m y = putL (putL l q m y) p k x := by
  refine ext_getD _ _ (by rw [putL_len, putL_len, putL_len, putL_len]) fun i => ?_
  rw [getD_putL _ _ _ _ (by rw [putL_len]; exact hq), getD_putL _ _ _ _ hp, getD_putL _ _ _ _ (by rw [putL_len]; exact hp), getD_putL _ _ _ _ hq]
  by_cases h1 : q ≤ i ∧ i < q + m
  · rw [if_pos h1, if_neg (by omega), if_pos h1]
  · rw [if_neg h1]
    split
    · rfl
    · rfl
theorem take_apart (l : List UInt8) (p k x q m y : Nat) (hp : p + k ≤ l.length) (hq : q + m ≤ l.length) (h : p + k ≤ q ∨ q + m ≤ p) (hx : x < 256 ^ k) : takeN (putL (putL l p k x) q m y) p k = x := by
  rw [put_apart l p k x q m y hp hq h, takeN_put _ _ _ _ (by rw [putL_len]; exact hp) hx]
theorem wholeL_full {l : List UInt8} (h : l.length = 128) : wholeL l = l := by
  unfold wholeL
  rw [if_neg (by rintro rfl; simp at h)]
theorem getD_whole (l : List UInt8) (i : Nat) : (wholeL l).getD i 0 = l.getD i 0 := by
  unfold wholeL
  split
  · rename_i h
    subst h
    rw [List.getD_eq_getElem?_getD, zeros, List.getElem?_replicate]
    split <;> rfl
  · rfl
end Go.Proofs.Ytclbihcggjjgaaa
