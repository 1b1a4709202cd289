/- Layer 11 (note): which slots there may be, in plain Lean. -/
import Derived.Test.YtggdfecgkhnkkaaNote
namespace Go.Proofs.Ytggdfecgkhnkkaa
open Go
set_option linter.unusedSimpArgs false
set_option linter.unusedVariables false

theorem okRec_low (m m' i : Nat) (la : Int) (s : Nat) (h : s ≤ 14) : okRec m i la s = okRec m' i la s := by
  unfold okRec
  rw [decide_eq_true h]
  simp
theorem slotsK_high (rs : List NRec) : ∀ k, slotsK rs k = true → ∀ i, i < k → (h : i < rs.length) → rs[i].sl ≤ 14 ∨ (rs[i].sl = 255 ∧ i + 1 = rs.length) := by
  intro k
  induction k with
  | zero => intro _ i hi; omega
  | succ k ih =>
    intro hk i hi h
    have hk' : (slotsK rs k && okRec rs.length k (lastOf rs k) ((rs[k]?.map (·.sl)).getD 0)) = true := hk
    rw [Bool.and_eq_true] at hk'
    by_cases e : i = k
    · subst e
      have h2 := hk'.2
      rw [show (rs[i]?.map (·.sl)).getD 0 = rs[i].sl by simp [h]] at h2
      unfold okRec at h2
      simp only [Bool.and_eq_true, Bool.or_eq_true, decide_eq_true_eq, beq_iff_eq] at h2
      omega
    · exact ih hk'.1 i (by omega) h
theorem slotsK_more (rs : List NRec) (x : NRec) (hl : ∀ i (h : i < rs.length), rs[i].sl ≤ 14) : ∀ k, k ≤ rs.length → slotsK (rs ++ [x]) k = slotsK rs k := by
  intro k
  induction k with
  | zero => intro _; rfl
  | succ k ih =>
    intro hk
    show (slotsK (rs ++ [x]) k && okRec (rs ++ [x]).length k (lastOf (rs ++ [x]) k) (((rs ++ [x])[k]?.map (·.sl)).getD 0)) = (slotsK rs k && okRec rs.length k (lastOf rs k) ((rs[k]?.map (·.sl)).getD 0))
    rw [ih (by omega), List.getElem?_append_left (by omega)]
    have e : lastOf (rs ++ [x]) k = lastOf rs k := by
      rcases k with _ | k
      · rfl
      · show ((((rs ++ [x])[k]?.map (·.sl)).getD 0 : Nat) : Int) = (((rs[k]?.map (·.sl)).getD 0 : Nat) : Int)
        rw [List.getElem?_append_left (by omega)]
    rw [e, okRec_low (rs ++ [x]).length rs.length k _ _ (by have := hl k (by omega); simpa [show k < rs.length by omega] using this)]
theorem hdB_n {age sq : Nat} {st : Int} {n m : Nat} (h : hdB age sq st n = true) (hm : 1 ≤ m ∧ m ≤ 16) : hdB age sq st m = true := by
  unfold hdB at *
  rw [decide_eq_true_eq] at *
  exact ⟨hm, h.2⟩
theorem noteB_alone (age sq : Nat) (st : Int) (rs : List NRec) (x : NRec) (h : noteB age sq st rs = true) : noteB age sq st [x] = decide (x.sl ≤ 14) := by
  unfold noteB at *
  rw [Bool.and_eq_true] at h
  rw [show [x].length = 1 from rfl, hdB_n h.1 (by decide), Bool.true_and]
  show (true && okRec 1 0 (-1) x.sl) = _
  unfold okRec
  simp
  omega
theorem noteB_more (age sq : Nat) (st : Int) (rs : List NRec) (x : NRec) (n : Nat) (hn : rs.length = n + 1) (hn15 : n + 1 ≤ 15) (hx : x.sl < 256) (h : noteB age sq st rs = true) :
    noteB age sq st (rs ++ [x]) = (decide (rs[n].sl < x.sl) && (decide (x.sl ≤ 14) || decide (x.sl = 255))) := by
  unfold noteB at *
  rw [Bool.and_eq_true] at h
  rw [hdB_n h.1 (by simp; omega), Bool.true_and, List.length_append, List.length_singleton]
  show (slotsK (rs ++ [x]) rs.length && okRec (rs ++ [x]).length rs.length (lastOf (rs ++ [x]) rs.length) (((rs ++ [x])[rs.length]?.map (·.sl)).getD 0)) = _
  have e1 : (((rs ++ [x])[rs.length]?.map (·.sl)).getD 0) = x.sl := by simp
  have e2 : lastOf (rs ++ [x]) rs.length = (rs[n].sl : Int) := by
    refine (congrArg (lastOf (rs ++ [x])) hn).trans ?_
    show ((((rs ++ [x])[n]?.map (·.sl)).getD 0 : Nat) : Int) = _
    rw [List.getElem?_append_left (by omega)]
    simp [show n < rs.length by omega]
  rw [e1, e2]
  by_cases hP : ∀ i (h : i < rs.length), rs[i].sl ≤ 14
  · have hPn := hP n (by omega)
    rw [slotsK_more rs x hP _ (Nat.le_refl _), h.2, Bool.true_and, Bool.eq_iff_iff]
    unfold okRec
    simp only [Bool.and_eq_true, Bool.or_eq_true, decide_eq_true_eq, beq_iff_eq, List.length_append, List.length_singleton, and_true]
    omega
  · have hlast : rs[n].sl = 255 := by
      apply Classical.byContradiction
      intro hne
      apply hP
      intro i hi
      rcases slotsK_high rs _ h.2 i hi hi with h1 | ⟨h1, h2⟩
      · exact h1
      · exfalso
        have : i = n := by omega
        subst this
        exact hne h1
    rw [Bool.eq_iff_iff]
    unfold okRec
    simp only [Bool.and_eq_true, Bool.or_eq_true, decide_eq_true_eq, beq_iff_eq, List.length_append, List.length_singleton, hlast]
    omega
end Go.Proofs.Ytggdfecgkhnkkaa
