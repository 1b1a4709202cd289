/- Blocks with a sum at their end, as plain lists of bytes. -/
import Derived.Test.YtclbihcggjjgaaaPackPlain
import Derived.Test.YtclbihcggjjgaaaTurned
namespace Go.Proofs.Ytclbihcggjjgaaa

theorem app_getD (a b : List UInt8) (i : Nat) : (a ++ b).getD i 0 = if i < a.length then a.getD i 0 else b.getD (i - a.length) 0 := by
  simp only [List.getD_eq_getElem?_getD, List.getElem?_append]
  split <;> rfl

theorem out_getD (l : List UInt8) (i : Nat) (h : l.length ≤ i) : l.getD i 0 = 0 := by
  rw [List.getD_eq_getElem?_getD, List.getElem?_eq_none h]; rfl

/-- a number's bytes, the lowest first -/
def le : Nat → Nat → List UInt8
  | 0, _ => []
  | k + 1, x => le k x ++ [UInt8.ofNat (x / 256 ^ k)]
theorem le_len (k x : Nat) : (le k x).length = k := by
  induction k with
  | zero => rfl
  | succ k ih => simp [le, ih]
theorem le_at (k x j : Nat) (hj : j < k) : (le k x).getD j 0 = UInt8.ofNat (x / 256 ^ j) := by
  induction k with
  | zero => omega
  | succ k ih =>
    unfold le
    rw [app_getD]
    split
    · rename_i h
      rw [le_len] at h
      exact ih h
    · rename_i h
      rw [le_len] at h ⊢
      obtain rfl : j = k := by omega
      simp
/-- bytes, and noughts behind them -/
def pad (l : List UInt8) : List UInt8 := l ++ List.replicate (128 - l.length) 0
theorem pad_len {l : List UInt8} (h : l.length ≤ 128) : (pad l).length = 128 := by simp [pad]; omega
theorem pad_nil : pad [] = zeros := rfl
theorem pad_getD (l : List UInt8) (i : Nat) : (pad l).getD i 0 = l.getD i 0 := by
  unfold pad
  rw [app_getD]
  split
  · rfl
  · rename_i h
    rw [out_getD _ i (by omega)]
    simp only [List.getD_eq_getElem?_getD, List.getElem?_replicate]
    split <;> rfl
theorem set_getD (l : List UInt8) (p i : Nat) (v : UInt8) (hp : p < l.length) : (l.set p v).getD i 0 = if i = p then v else l.getD i 0 := by
  simp only [List.getD_eq_getElem?_getD, List.getElem?_set]
  by_cases h : i = p
  · subst h; simp [hp]
  · rw [if_neg (fun e => h e.symm), if_neg h]
theorem snoc_getD (l : List UInt8) (v : UInt8) (i : Nat) : (l ++ [v]).getD i 0 = if i = l.length then v else l.getD i 0 := by
  rw [app_getD]
  split
  · rename_i h; rw [if_neg (by omega)]
  · rename_i h
    by_cases h2 : i = l.length
    · subst h2; simp
    · rw [if_neg h2, out_getD _ i (by omega), out_getD _ (i - l.length) (by simp; omega)]
theorem pad_snoc (q : List UInt8) (v : UInt8) (h : q.length < 128) : (pad q).set q.length v = pad (q ++ [v]) := by
  apply ext_getD
  · rw [List.length_set, pad_len (by omega), pad_len (by simp; omega)]
  · intro i
    rw [set_getD _ _ _ _ (by rw [pad_len (by omega)]; omega), pad_getD, pad_getD, snoc_getD]
theorem put_pad (pre : List UInt8) (k x : Nat) (h : pre.length + k ≤ 128) : putL (pad pre) pre.length k x = pad (pre ++ le k x) := by
  induction k with
  | zero => simp [putL, le]
  | succ k ih =>
    show (putL (pad pre) pre.length k x).set (pre.length + k) _ = pad (pre ++ (le k x ++ [_]))
    rw [ih (by omega), ← List.append_assoc, ← pad_snoc _ _ (by rw [List.length_append, le_len]; omega), List.length_append, le_len]
theorem put_pad' (pre : List UInt8) (p k x : Nat) (hp : pre.length = p) (h : p + k ≤ 128) : putL (pad pre) p k x = pad (pre ++ le k x) := by
  subst hp; exact put_pad pre k x h
theorem takeN_congr (l m : List UInt8) (p k : Nat) (h : ∀ j, j < k → l.getD (p + j) 0 = m.getD (p + j) 0) : takeN l p k = takeN m p k := by
  induction k with
  | zero => rfl
  | succ k ih =>
    unfold takeN
    rw [ih (fun j hj => h j (by omega)), h k (by omega)]
theorem takeN_pad (l : List UInt8) (p k : Nat) : takeN (pad l) p k = takeN l p k := takeN_congr _ _ _ _ fun _ _ => pad_getD l _
theorem takeN_in (pre post : List UInt8) (k x : Nat) (hx : x < 256 ^ k) : takeN (pre ++ le k x ++ post) pre.length k = x := by
  rw [takeN_of _ _ k x (fun j hj => ?_), Nat.mod_eq_of_lt hx]
  rw [app_getD, if_pos (by rw [List.length_append, le_len]; omega), app_getD, if_neg (by omega), Nat.add_sub_cancel_left, le_at _ _ _ hj]

/-- a block, and the sum of its first 124 bytes -/
def sealL (l : List UInt8) : List UInt8 := putL l 124 4 (Crc.sum (l.take 124))
theorem sealL_len (l : List UInt8) : (sealL l).length = l.length := putL_len _ _ _ _
theorem take_ext (l m : List UInt8) (n : Nat) (hl : l.length = m.length) (h : ∀ i, i < n → l.getD i 0 = m.getD i 0) : l.take n = m.take n := by
  apply ext_getD
  · simp [hl]
  · intro i
    simp only [List.getD_eq_getElem?_getD, List.getElem?_take]
    split
    · rename_i hi; have := h i hi; simpa [List.getD_eq_getElem?_getD] using this
    · rfl
def Sealed (l : List UInt8) : Prop := l.length = 128 ∧ takeN l 124 4 = Crc.sum (l.take 124)
theorem sealL_getD (l : List UInt8) (hl : l.length = 128) (i : Nat) (hi : i < 124) : (sealL l).getD i 0 = l.getD i 0 := by
  unfold sealL
  rw [getD_putL _ _ _ _ (by omega), if_neg (by omega)]
theorem sealL_sealed (l : List UInt8) (hl : l.length = 128) : Sealed (sealL l) := by
  refine ⟨by rw [sealL_len, hl], ?_⟩
  rw [take_ext (sealL l) l 124 (sealL_len l) (fun i hi => sealL_getD l hl i hi)]
  exact takeN_put _ _ _ _ (by omega) (Crc.sum_lt _)
theorem sealL_take (l : List UInt8) (hl : l.length = 128) (p k : Nat) (h : p + k ≤ 124) : takeN (sealL l) p k = takeN l p k :=
  takeN_congr _ _ _ _ fun _ _ => sealL_getD l hl _ (by omega)

/-- up to four bytes turned: the block is sealed no more -/
theorem turned_getD (bs ys : List UInt8) (p k i : Nat) (hp : p + k ≤ bs.length) : (turned bs ys p k).getD i 0 = if p ≤ i ∧ i < p + k then bs.getD i 0 ^^^ ys.getD (i - p) 0 else bs.getD i 0 := by
  induction k with
  | zero => rw [if_neg (by omega)]; rfl
  | succ k ih =>
    have ih' := ih (by omega)
    unfold turned
    rw [set_getD _ _ _ _ (by rw [turned_length]; omega)]
    by_cases h : i = p + k
    · subst h
      rw [if_pos rfl, if_pos (by omega), ih', if_neg (by omega), Nat.add_sub_cancel_left]
    · rw [if_neg h, ih']
      by_cases h2 : p ≤ i ∧ i < p + k
      · rw [if_pos h2, if_pos (by omega)]
      · rw [if_neg h2, if_neg (by omega)]
theorem xor_eq_self (a b : UInt8) (h : a ^^^ b = a) : b = 0 := by
  have e : a ^^^ (a ^^^ b) = a ^^^ a := by rw [h]
  rw [← UInt8.xor_assoc, UInt8.xor_self, UInt8.zero_xor] at e
  exact e
theorem turned_unsealed (bs : List UInt8) (y0 y1 y2 y3 : UInt8) (p : Nat) (hs : Sealed bs) (hp : p ≤ 120 ∨ p = 124) (hy : ¬ (y0 = 0 ∧ y1 = 0 ∧ y2 = 0 ∧ y3 = 0)) : ¬ Sealed (turned bs [y0, y1, y2, y3] p 4) := by
  obtain ⟨hl, hs⟩ := hs
  rintro ⟨_, ht⟩
  rcases hp with hp | rfl
  · have e1 : (turned bs [y0, y1, y2, y3] p 4).take 124 = turned (bs.take 124) [y0, y1, y2, y3] p 4 := by
      apply ext_getD
      · rw [List.length_take, turned_length, turned_length, List.length_take]
      · intro i
        rw [turned_getD (bs.take 124) _ _ _ _ (by rw [List.length_take, hl]; simp; omega)]
        have hg : ∀ (l : List UInt8), (l.take 124).getD i 0 = if i < 124 then l.getD i 0 else 0 := fun l => by
          simp only [List.getD_eq_getElem?_getD, List.getElem?_take]
          split <;> rfl
        rw [hg, hg, turned_getD bs _ _ _ _ (by omega)]
        by_cases h : i < 124
        · simp only [h, if_true]
        · rw [if_neg h, if_neg h, if_neg (by omega)]
    have e2 : takeN (turned bs [y0, y1, y2, y3] p 4) 124 4 = takeN bs 124 4 := takeN_congr _ _ _ _ fun j hj => by
      rw [turned_getD _ _ _ _ _ (by omega), if_neg (by omega)]
    rw [e1, e2, hs] at ht
    exact turned_sum (bs.take 124) [y0, y1, y2, y3] p (by rw [List.length_take, hl]; simp; omega) y0 y1 y2 y3 rfl hy ht.symm
  · have e1 : (turned bs [y0, y1, y2, y3] 124 4).take 124 = bs.take 124 := take_ext _ _ _ (turned_length _ _ _ _) fun i hi => by
      rw [turned_getD _ _ _ _ _ (by omega), if_neg (by omega)]
    rw [e1, ← hs] at ht
    have hb : ∀ j, j < 4 → bs.getD (124 + j) 0 ^^^ [y0, y1, y2, y3].getD j 0 = bs.getD (124 + j) 0 := fun j hj => by
      have h1 := takeN_byte (turned bs [y0, y1, y2, y3] 124 4) 124 4 j hj
      rw [ht, takeN_byte _ _ _ _ hj, turned_getD _ _ _ _ _ (by omega), if_pos (by omega), Nat.add_sub_cancel_left] at h1
      exact h1.symm
    exact hy ⟨xor_eq_self _ _ (hb 0 (by omega)), xor_eq_self _ _ (hb 1 (by omega)), xor_eq_self _ _ (hb 2 (by omega)), xor_eq_self _ _ (hb 3 (by omega))⟩
theorem le4_own (x : Nat) : le 4 x = Crc.own x := by
  simp [le, Crc.own]
end Go.Proofs.Ytclbihcggjjgaaa
