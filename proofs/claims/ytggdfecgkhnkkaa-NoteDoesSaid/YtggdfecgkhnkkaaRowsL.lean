/- Numbers one behind the other in a block, as plain lists of bytes. -/
import Derived.Test.YtggdfecgkhnkkaaSeal
namespace Go.Proofs.Ytggdfecgkhnkkaa

/-- a row: a number, where it stands, and how many bytes it has -/
abbrev NRow := Nat × Nat × Nat
def Consec : Nat → List NRow → Prop
  | _, [] => True
  | p, r :: rs => r.2.1 = p ∧ 1 ≤ r.2.2 ∧ r.2.2 ≤ 4 ∧ r.1 < 256 ^ r.2.2 ∧ Consec (p + r.2.2) rs
def bytesL (rows : List NRow) : List UInt8 := rows.flatMap fun r => le r.2.2 r.1
def putR (bs : List UInt8) (r : NRow) : List UInt8 := putL (wholeL bs) r.2.1 r.2.2 r.1
def putsL (rows : List NRow) : List UInt8 := rows.foldl putR []
theorem putsL_nil : putsL [] = [] := rfl
theorem putsL_snoc (rows : List NRow) (r : NRow) : putsL (rows ++ [r]) = putR (putsL rows) r := by simp [putsL]
theorem putsL_succ (rows : List NRow) (k : Nat) (h : k < rows.length) : putsL (rows.take (k + 1)) = putR (putsL (rows.take k)) rows[k] := by
  rw [List.take_succ_eq_append_getElem h, putsL_snoc]
theorem putR_len {bs : List UInt8} (h : bs.length = 0 ∨ bs.length = 128) (r : NRow) : (putR bs r).length = 128 := by
  unfold putR
  rw [putL_len]
  exact wholeL_len rfl h
theorem bytesL_nil : bytesL [] = [] := rfl
theorem bytesL_cons (r : NRow) (rows : List NRow) : bytesL (r :: rows) = le r.2.2 r.1 ++ bytesL rows := by simp [bytesL]
theorem bytesL_append (a b : List NRow) : bytesL (a ++ b) = bytesL a ++ bytesL b := by simp [bytesL]
def sizeL (rows : List NRow) : Nat := (rows.map fun r => r.2.2).sum
theorem bytesL_len (rows : List NRow) : (bytesL rows).length = sizeL rows := by
  induction rows with
  | nil => rfl
  | cons r rs ih => rw [bytesL_cons, List.length_append, le_len, ih]; simp [sizeL]
theorem sizeL_cons (r : NRow) (rows : List NRow) : sizeL (r :: rows) = r.2.2 + sizeL rows := by simp [sizeL]
theorem sizeL_append (a b : List NRow) : sizeL (a ++ b) = sizeL a + sizeL b := by simp [sizeL]
theorem wholeL_pad {l : List UInt8} (h : l.length ≤ 128) : wholeL (pad l) = pad l := wholeL_full (pad_len h)
theorem puts_pre (rows : List NRow) : ∀ (pre : List UInt8), Consec pre.length rows → pre.length + sizeL rows ≤ 128 → rows.foldl putR (pad pre) = pad (pre ++ bytesL rows) := by
  induction rows with
  | nil => intro pre _ _; simp [bytesL]
  | cons r rs ih =>
    intro pre hc hl
    obtain ⟨h1, h2, h3, h4, hc⟩ := hc
    rw [sizeL_cons] at hl
    have e : putR (pad pre) r = pad (pre ++ le r.2.2 r.1) := by
      unfold putR
      rw [wholeL_pad (by omega), put_pad' pre _ _ _ h1.symm (by omega)]
    rw [List.foldl_cons, e, ih (pre ++ le r.2.2 r.1) (by rw [List.length_append, le_len]; exact hc) (by rw [List.length_append, le_len]; omega), bytesL_cons, List.append_assoc]
theorem putsL_pad (r : NRow) (rows : List NRow) (hc : Consec 0 (r :: rows)) (hl : sizeL (r :: rows) ≤ 128) : putsL (r :: rows) = pad (bytesL (r :: rows)) := by
  have h := puts_pre (r :: rows) [] hc (by simpa using hl)
  rw [List.nil_append] at h
  rw [← h]
  unfold putsL
  rw [List.foldl_cons, List.foldl_cons]
  congr 1
theorem take_pre (rows : List NRow) : ∀ (pre : List UInt8), Consec pre.length rows → ∀ r ∈ rows, takeN (pre ++ bytesL rows) r.2.1 r.2.2 = r.1 := by
  induction rows with
  | nil => intro pre _ r hr; simp at hr
  | cons a rs ih =>
    intro pre hc r hr
    obtain ⟨h1, h2, h3, h4, hc⟩ := hc
    rw [bytesL_cons]
    rcases List.mem_cons.1 hr with rfl | hr
    · rw [h1, ← List.append_assoc]
      exact takeN_in pre (bytesL rs) r.2.2 r.1 h4
    · rw [← List.append_assoc]
      exact ih (pre ++ le a.2.2 a.1) (by rw [List.length_append, le_len]; exact hc) r hr
theorem consec_end (rows : List NRow) : ∀ p, Consec p rows → ∀ r ∈ rows, r.2.1 + r.2.2 ≤ p + sizeL rows := by
  induction rows with
  | nil => intro p _ r hr; simp at hr
  | cons a rs ih =>
    intro p hc r hr
    obtain ⟨h1, h2, h3, h4, hc⟩ := hc
    rw [sizeL_cons]
    rcases List.mem_cons.1 hr with rfl | hr
    · omega
    · have := ih _ hc r hr
      omega
theorem consec_fits (rows : List NRow) : ∀ p, Consec p rows → ∀ r ∈ rows, 1 ≤ r.2.2 ∧ r.2.2 ≤ 4 ∧ r.1 < 256 ^ r.2.2 := by
  induction rows with
  | nil => intro p _ r hr; simp at hr
  | cons a rs ih =>
    intro p hc r hr
    obtain ⟨h1, h2, h3, h4, hc⟩ := hc
    rcases List.mem_cons.1 hr with rfl | hr
    · exact ⟨h2, h3, h4⟩
    · exact ih _ hc r hr
/-- the block of rows -/
def rowsBlock (rows : List NRow) : List UInt8 := sealL (pad (bytesL rows))
theorem rowsBlock_len (rows : List NRow) (h : sizeL rows ≤ 124) : (rowsBlock rows).length = 128 := by
  unfold rowsBlock
  rw [sealL_len, pad_len (by rw [bytesL_len]; omega)]
theorem rowsBlock_take (rows : List NRow) (hc : Consec 0 rows) (h : sizeL rows ≤ 124) (r : NRow) (hr : r ∈ rows) : takeN (wholeL (rowsBlock rows)) r.2.1 r.2.2 = r.1 := by
  have h1 := consec_end rows 0 hc r hr
  rw [wholeL_full (rowsBlock_len rows h)]
  unfold rowsBlock
  rw [sealL_take _ (pad_len (by rw [bytesL_len]; omega)) _ _ (by omega), takeN_pad]
  exact take_pre rows [] hc r hr
theorem rowsBlock_sealed (rows : List NRow) (h : sizeL rows ≤ 124) : Sealed (rowsBlock rows) := sealL_sealed _ (pad_len (by rw [bytesL_len]; omega))
end Go.Proofs.Ytggdfecgkhnkkaa
