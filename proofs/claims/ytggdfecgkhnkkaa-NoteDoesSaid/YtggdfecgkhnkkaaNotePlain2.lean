/- Layer 11 (note): a note's block, in plain Lean. -/
import Derived.Test.YtggdfecgkhnkkaaNoteRead
namespace Go.Proofs.Ytggdfecgkhnkkaa
open Go Go.RowKit
set_option linter.unusedSimpArgs false
set_option linter.unusedVariables false

def noteBlock (id age sq st : Nat) (rs : List NRec) : List UInt8 := sealL (putsL (noteRows id age sq st rs))
def recRows (k : Nat) (r : NRec) : List NRow := [(r.sl, 15 + 6 * k, 1), (bareN r.ba, 15 + 6 * k + 1, 1), (r.su, 15 + 6 * k + 2, 4)]
def recsRows : Nat → List NRec → List NRow
  | _, [] => []
  | k, r :: rs => recRows k r ++ recsRows (k + 1) rs
theorem flat_map_succ {α β : Type} (f : α → List β) (n : Nat) (g : Fin n → α) : (List.finRange n).flatMap (fun i => f (g i)) = ((List.finRange n).map g).flatMap f := by
  rw [List.flatMap_map]
theorem recsRows_eq (rs : List NRec) : ∀ k (F : Fin rs.length → List NRow), (∀ x, F x = recRows (k + x.val) rs[x.val]) → (List.finRange rs.length).flatMap F = recsRows k rs := by
  induction rs with
  | nil => intro k F _; simp [recsRows]
  | cons r rs ih =>
    intro k F hF
    show (List.finRange (rs.length + 1)).flatMap F = recRows k r ++ recsRows (k + 1) rs
    rw [List.finRange_succ, List.flatMap_cons, show F 0 = recRows k r from hF ⟨0, by simp⟩]
    congr 1
    rw [List.flatMap_map]
    refine ih (k + 1) _ fun x => ?_
    rw [hF]
    simp only [Fin.val_succ, List.getElem_cons_succ]
    congr 1
    omega
theorem noteRows_eq (id age sq st : Nat) (rs : List NRec) : noteRows id age sq st rs = hdRows id age sq st rs.length ++ recsRows 0 rs := by
  unfold noteRows
  rw [recsRows_eq rs 0 (recAt rs) fun x => ?_]
  simp [recAt, recRows]
theorem consec_append (a b : List NRow) : ∀ p, Consec p a → Consec (p + sizeL a) b → Consec p (a ++ b) := by
  induction a with
  | nil => intro p _ h; simpa [sizeL] using h
  | cons r rs ih =>
    intro p ⟨h1, h2, h3, h4, h5⟩ hb
    refine ⟨h1, h2, h3, h4, ih _ h5 ?_⟩
    rw [sizeL_cons] at hb
    rw [Nat.add_assoc]; exact hb
theorem recsRows_size (rs : List NRec) : ∀ k, sizeL (recsRows k rs) = 6 * rs.length := by
  induction rs with
  | nil => intro k; rfl
  | cons r rs ih =>
    intro k
    show sizeL (recRows k r ++ recsRows (k + 1) rs) = _
    rw [sizeL_append, ih]
    simp [recRows, sizeL]
    omega
theorem consec1 (p x z : Nat) (rows : List NRow) (hz : 1 ≤ z ∧ z ≤ 4) (hx : x < 256 ^ z) (h : Consec (p + z) rows) : Consec p ((x, p, z) :: rows) := ⟨rfl, hz.1, hz.2, hx, h⟩
theorem consec3 (p q r x y z u : Nat) (hx : x < 256 ^ 1) (hy : y < 256 ^ 1) (hz : z < 256 ^ 4) : Consec p [(x, p, 1), (y, p + 1, 1), (z, p + 2, 4)] :=
  consec1 p x 1 _ (by decide) hx (consec1 (p + 1) y 1 _ (by decide) hy (consec1 (p + 2) z 4 [] (by decide) hz trivial))
theorem recsRows_consec (rs : List NRec) (h : ∀ r ∈ rs, r.sl < 256 ∧ r.su < 4294967296) : ∀ k, Consec (15 + 6 * k) (recsRows k rs) := by
  induction rs with
  | nil => intro k; trivial
  | cons r rs ih =>
    intro k
    show Consec _ (recRows k r ++ recsRows (k + 1) rs)
    have hr := h r (by simp)
    refine consec_append _ _ _ (consec3 _ 0 0 _ _ _ 0 (show r.sl < 256 ^ 1 by omega) ?_ (show r.su < 256 ^ 4 by omega)) ?_
    · show bareN r.ba < 256 ^ 1
      cases r.ba <;> decide
    · have := ih (fun r hr => h r (by simp [hr])) (k + 1)
      rw [show 15 + 6 * k + sizeL (recRows k r) = 15 + 6 * (k + 1) by simp [recRows, sizeL]; omega]
      exact this
theorem noteRows_size (id age sq st : Nat) (rs : List NRec) : sizeL (noteRows id age sq st rs) = 15 + 6 * rs.length := by
  rw [noteRows_eq, sizeL_append, recsRows_size]
  simp [hdRows, sizeL]
theorem noteRows_consec {id age sq st : Nat} {rs : List NRec} (hi : id < 4294967296) (ha : age < 4294967296) (hs : sq < 4294967296) (ht : st < 256) (hn : rs.length < 256) (h : ∀ r ∈ rs, r.sl < 256 ∧ r.su < 4294967296) : Consec 0 (noteRows id age sq st rs) := by
  rw [noteRows_eq]
  refine consec_append _ _ _ (consec1 0 78 1 _ (by decide) (by decide) (consec1 1 id 4 _ (by decide) hi (consec1 5 age 4 _ (by decide) ha (consec1 9 sq 4 _ (by decide) hs (consec1 13 st 1 _ (by decide) ht (consec1 14 rs.length 1 [] (by decide) hn trivial)))))) ?_
  have := recsRows_consec rs h 0
  simpa [hdRows, sizeL] using this
theorem noteBlock_rows {id age sq st : Nat} {rs : List NRec} (hc : Consec 0 (noteRows id age sq st rs)) (hn : rs.length ≤ 16) : noteBlock id age sq st rs = rowsBlock (noteRows id age sq st rs) := by
  unfold noteBlock rowsBlock
  congr 1
  have hs := noteRows_size id age sq st rs
  have e : noteRows id age sq st rs = (78, 0, 1) :: (noteRows id age sq st rs).tail := rfl
  rw [e] at hc hs ⊢
  exact putsL_pad _ _ hc (by omega)

/-- are these bytes a note's block, and of which? -/
structure NoteIs (bs : List UInt8) (id age sq st : Nat) (rs : List NRec) : Prop where
  qid : id = takeN (wholeL bs) 1 4
  qage : age = takeN (wholeL bs) 5 4
  qsq : sq = takeN (wholeL bs) 9 4
  qst : st = takeN (wholeL bs) 13 1
  qrs : rs = rdRs (wholeL bs) (min (takeN (wholeL bs) 14 1) 17)
  ok : noteB age sq (st : Int) rs = true
  bs : noteBlock id age sq st rs = bs

theorem rdRs_bounds (B : List UInt8) (k : Nat) : ∀ r ∈ rdRs B k, r.sl < 256 ∧ r.su < 4294967296 := by
  intro r hr
  unfold rdRs at hr
  rw [List.mem_map] at hr
  obtain ⟨i, _, rfl⟩ := hr
  exact ⟨takeN_lt _ _ 1, takeN_lt _ _ 4⟩
theorem noteB_parts {age sq : Nat} {st : Int} {rs : List NRec} (h : noteB age sq st rs = true) : 1 ≤ rs.length ∧ rs.length ≤ 16 ∧ 0 ≤ st ∧ st < 64 ∧ age < 4294967296 ∧ sq < 4294967296 := by
  unfold noteB hdB at h
  rw [Bool.and_eq_true, decide_eq_true_eq] at h
  omega
section
variable {bs : List UInt8} {id age sq st : Nat} {rs : List NRec}
theorem NoteIs.bounds (h : NoteIs bs id age sq st rs) : id < 4294967296 ∧ age < 4294967296 ∧ sq < 4294967296 ∧ (∀ r ∈ rs, r.sl < 256 ∧ r.su < 4294967296) ∧ 1 ≤ rs.length ∧ rs.length ≤ 16 ∧ st < 64 := by
  have hp := noteB_parts h.ok
  refine ⟨by rw [h.qid]; exact takeN_lt _ 1 4, hp.2.2.2.2.1, hp.2.2.2.2.2, by rw [h.qrs]; exact rdRs_bounds _ _, hp.1, hp.2.1, by omega⟩
theorem NoteIs.consec (h : NoteIs bs id age sq st rs) : Consec 0 (noteRows id age sq st rs) := by
  obtain ⟨h1, h2, h3, h4, h5, h6, h7⟩ := h.bounds
  exact noteRows_consec h1 h2 h3 (by omega) (by omega) h4
theorem note_len (hi : id < 4294967296) (hr : ∀ r ∈ rs, r.sl < 256 ∧ r.su < 4294967296) (hok : noteB age sq (st : Int) rs = true) : (noteBlock id age sq st rs).length = 128 ∧ Sealed (noteBlock id age sq st rs) := by
  have hp := noteB_parts hok
  rw [noteBlock_rows (noteRows_consec hi hp.2.2.2.2.1 hp.2.2.2.2.2 (by omega) (by omega) hr) hp.2.1]
  exact ⟨rowsBlock_len _ (by rw [noteRows_size]; omega), rowsBlock_sealed _ (by rw [noteRows_size]; omega)⟩
theorem NoteIs.len (h : NoteIs bs id age sq st rs) : bs.length = 128 := by
  obtain ⟨h1, h2, h3, h4, h5, h6, h7⟩ := h.bounds
  rw [← h.bs]; exact (note_len h1 h4 h.ok).1
theorem NoteIs.sealed (h : NoteIs bs id age sq st rs) : Sealed bs := by
  obtain ⟨h1, h2, h3, h4, h5, h6, h7⟩ := h.bounds
  rw [← h.bs]; exact (note_len h1 h4 h.ok).2
theorem recsRows_mem (rs : List NRec) : ∀ k i (hi : i < rs.length), ∀ r ∈ recRows (k + i) rs[i], r ∈ recsRows k rs := by
  induction rs with
  | nil => intro k i hi; simp at hi
  | cons x rs ih =>
    intro k i hi r hr
    show r ∈ recRows k x ++ recsRows (k + 1) rs
    rw [List.mem_append]
    rcases i with _ | i
    · exact .inl (by simpa using hr)
    · refine .inr (ih (k + 1) i (by simpa using hi) r ?_)
      simp only [List.getElem_cons_succ] at hr
      rw [show k + 1 + i = k + (i + 1) by omega]
      exact hr
/-- what is written is read -/
theorem note_own (hi : id < 4294967296) (hr : ∀ r ∈ rs, r.sl < 256 ∧ r.su < 4294967296) (hok : noteB age sq (st : Int) rs = true) : NoteIs (noteBlock id age sq st rs) id age sq st rs := by
  have hp := noteB_parts hok
  have hc := noteRows_consec hi hp.2.2.2.2.1 hp.2.2.2.2.2 (show st < 256 by omega) (show rs.length < 256 by omega) hr
  have t : ∀ x ∈ noteRows id age sq st rs, x.1 = takeN (wholeL (noteBlock id age sq st rs)) x.2.1 x.2.2 := fun x hx => by
    rw [noteBlock_rows hc hp.2.1]; exact (rowsBlock_take _ hc (by rw [noteRows_size]; omega) x hx).symm
  have th : ∀ x ∈ hdRows id age sq st rs.length, x.1 = takeN (wholeL (noteBlock id age sq st rs)) x.2.1 x.2.2 := fun x hx => t x (by rw [noteRows_eq]; exact List.mem_append_left _ hx)
  have tr : ∀ i (hi : i < rs.length), ∀ x ∈ recRows i rs[i], x.1 = takeN (wholeL (noteBlock id age sq st rs)) x.2.1 x.2.2 := fun i hi x hx => t x (by rw [noteRows_eq]; exact List.mem_append_right _ (recsRows_mem rs 0 i hi x (by rw [Nat.zero_add]; exact hx)))
  refine ⟨th (id, 1, 4) (by simp [hdRows]), th (age, 5, 4) (by simp [hdRows]), th (sq, 9, 4) (by simp [hdRows]), th (st, 13, 1) (by simp [hdRows]), ?_, hok, rfl⟩
  rw [← th (rs.length, 14, 1) (by simp [hdRows]), show min rs.length 17 = rs.length by omega]
  refine List.ext_getElem (by rw [rdRs_len]) fun i h1 h2 => ?_
  have e1 := tr i h1 (rs[i].sl, 15 + 6 * i, 1) (by simp [recRows])
  have e2 := tr i h1 (bareN rs[i].ba, 15 + 6 * i + 1, 1) (by simp [recRows])
  have e3 := tr i h1 (rs[i].su, 15 + 6 * i + 2, 4) (by simp [recRows])
  have e4 : (rdRs (wholeL (noteBlock id age sq st rs)) rs.length)[i] = rdRec (wholeL (noteBlock id age sq st rs)) i := by simp [rdRs]
  rw [e4]
  unfold rdRec
  generalize rs[i] = r at *
  obtain ⟨a, b, c⟩ := r
  dsimp only at e1 e2 e3 ⊢
  rw [← e1, show 16 + 6 * i = 15 + 6 * i + 1 by omega, ← e2, show 17 + 6 * i = 15 + 6 * i + 2 by omega, ← e3]
  cases b <;> rfl
theorem note_one {id' age' sq' st' : Nat} {rs' : List NRec} (h : NoteIs bs id age sq st rs) (h' : NoteIs bs id' age' sq' st' rs') : id = id' ∧ age = age' ∧ sq = sq' ∧ st = st' ∧ rs = rs' :=
  ⟨h.qid.trans h'.qid.symm, h.qage.trans h'.qage.symm, h.qsq.trans h'.qsq.symm, h.qst.trans h'.qst.symm, h.qrs.trans h'.qrs.symm⟩
end

theorem nwrite_any (id age sq : Nat) (st : Nat) (rs : List NRec) (n : Nat) (hi : id < 4294967296) (hr : ∀ r ∈ rs, r.sl < 256 ∧ r.su < 4294967296) (hok : noteB age sq (st : Int) rs = true) (A : Option Addr) (q : Nat) (W : World) (h : Rs W A n rs) :
    Calls Try.prog 11 #[.agg #[.int .u32 (id : Int), .int .u32 (age : Int), .int .u32 (sq : Int), .int .i64 (st : Int), .slice A n q]] W fun e w' => ∃ g, e = .returned (.tuple #[.slice (some ⟨g, 0, none⟩) 128 128, .int .i64 0]) ∧ Box w' g (noteBlock id age sq st rs) ∧ Below W.heap.size W w' := by
  have hp := noteB_parts hok
  obtain ⟨b, off, rfl, _⟩ := h.cells (by have := h.1; omega)
  exact nwrite_ok id age sq st b off n q rs hi hp.2.2.2.2.1 hp.2.2.2.2.2 (fun r h => (hr r h).1) (fun r h => (hr r h).2) hok W h

theorem nread_block (A : Option Addr) (n q : Nat) (bs : List UInt8) (hn : n = 0 ∨ n = 128) (w : World) (hb : Bs w A n bs) :
    (∃ id age sq st rs, NoteIs bs id age sq st rs ∧ Calls Try.prog 13 #[.slice A n q] w fun e w' => (∃ A' c', e = .returned (.tuple #[.agg #[.int .u32 (id : Int), .int .u32 (age : Int), .int .u32 (sq : Int), .int .i64 (st : Int), .slice A' rs.length c'], .int .i64 0]) ∧ Rs w' A' rs.length rs) ∧ Below w.heap.size w w') ∨
    ((∀ id age sq st rs, ¬ NoteIs bs id age sq st rs) ∧ Calls Try.prog 13 #[.slice A n q] w fun e w' => e = .returned (.tuple #[.agg #[.int .u32 0, .int .u32 0, .int .u32 0, .int .i64 0, .slice none 0 0], .int .i64 90]) ∧ Below w.heap.size w w') := by
  have b1 : takeN (wholeL bs) 1 4 < 4294967296 := takeN_lt _ 1 4
  have b2 := rdRs_bounds (wholeL bs) (min (takeN (wholeL bs) 14 1) 17)
  have hl := rdRs_len (wholeL bs) (min (takeN (wholeL bs) 14 1) 17)
  have core := fun ws E h5 bad hbad => nread_core A n q bs hn (takeN (wholeL bs) 1 4) (takeN (wholeL bs) 5 4) (takeN (wholeL bs) 9 4) (takeN (wholeL bs) 13 1) (takeN (wholeL bs) 14 1) (min (takeN (wholeL bs) 14 1) 17) _ rfl rfl rfl rfl rfl rfl rfl ws E h5 bad hbad w hb
  cases hok : noteB (takeN (wholeL bs) 5 4) (takeN (wholeL bs) 9 4) ((takeN (wholeL bs) 13 1 : Nat) : Int) (rdRs (wholeL bs) (min (takeN (wholeL bs) 14 1) 17)) with
  | true =>
    have h5 := fun A' c' W (h : Rs W A' (min (takeN (wholeL bs) 14 1) 17) (rdRs (wholeL bs) (min (takeN (wholeL bs) 14 1) 17))) => (nwrite_any _ _ _ _ _ _ b1 b2 hok A' c' W h).mono fun e w' ⟨g, he, hB, hbl⟩ => (⟨_, _, _, he, hB.bs, hbl⟩ : ∃ P k c, e = Ending.returned (.tuple #[.slice P k c, .int .i64 0]) ∧ Bs w' P k _ ∧ Below W.heap.size W w')
    by_cases hbs : noteBlock (takeN (wholeL bs) 1 4) (takeN (wholeL bs) 5 4) (takeN (wholeL bs) 9 4) (takeN (wholeL bs) 13 1) (rdRs (wholeL bs) (min (takeN (wholeL bs) 14 1) 17)) = bs
    · refine .inl ⟨_, _, _, _, _, ⟨rfl, rfl, rfl, rfl, rfl, hok, hbs⟩, (core _ _ h5 false (.inr ⟨rfl, rfl, hbs⟩)).mono fun e w' he => ?_⟩
      obtain ⟨⟨h, _⟩ | ⟨_, A', c', h1, h2⟩, h3⟩ := he
      · cases h
      · rw [hl]; exact ⟨⟨A', c', h1, h2⟩, h3⟩
    · refine .inr ⟨?_, (core _ _ h5 true (.inl ⟨rfl, .inr ⟨rfl, hbs⟩⟩)).mono fun e w' he => ?_⟩
      · rintro i1 i2 i3 i4 i5 ⟨rfl, rfl, rfl, rfl, rfl, _, h⟩
        exact hbs h
      · obtain ⟨⟨_, h⟩ | ⟨h, _⟩, h3⟩ := he
        · exact ⟨h, h3⟩
        · cases h
  | false =>
    have h5 := fun A' c' W (h : Rs W A' (min (takeN (wholeL bs) 14 1) 17) (rdRs (wholeL bs) (min (takeN (wholeL bs) 14 1) 17))) => (nwrite_bad (takeN (wholeL bs) 1 4) _ _ _ A' _ c' _ (by omega) (fun r h => (b2 r h).1) hok W h).mono fun e w' ⟨he, hbl⟩ => (⟨_, _, _, he, Bs.nil _ _, hbl⟩ : ∃ P k c, e = Ending.returned (.tuple #[.slice P k c, .int .i64 8]) ∧ Bs w' P k [] ∧ Below W.heap.size W w')
    refine .inr ⟨?_, (core _ _ h5 true (.inl ⟨rfl, .inl rfl⟩)).mono fun e w' he => ?_⟩
    · rintro i1 i2 i3 i4 i5 ⟨rfl, rfl, rfl, rfl, rfl, h, _⟩
      rw [h] at hok
      cases hok
    · obtain ⟨⟨_, h⟩ | ⟨h, _⟩, h3⟩ := he
      · exact ⟨h, h3⟩
      · cases h

theorem nread_yes {n : Nat} {bs : List UInt8} {id age sq st : Nat} {rs : List NRec} (h : NoteIs bs id age sq st rs) (A : Option Addr) (q : Nat) (w : World) (hb : Bs w A n bs) :
    Calls Try.prog 13 #[.slice A n q] w fun e w' => (∃ A' c', e = .returned (.tuple #[.agg #[.int .u32 (id : Int), .int .u32 (age : Int), .int .u32 (sq : Int), .int .i64 (st : Int), .slice A' rs.length c'], .int .i64 0]) ∧ Rs w' A' rs.length rs) ∧ Below w.heap.size w w' := by
  have hn : n = 128 := by rw [← hb.1]; exact h.len
  rcases nread_block A n q bs (.inr hn) w hb with ⟨i1, i2, i3, i4, i5, hr, hc⟩ | ⟨hno, _⟩
  · obtain ⟨rfl, rfl, rfl, rfl, rfl⟩ := note_one hr h
    exact hc
  · exact absurd h (hno _ _ _ _ _)
theorem nread_no {n : Nat} {bs : List UInt8} (hn : n = 0 ∨ n = 128) (h : ∀ id age sq st rs, ¬ NoteIs bs id age sq st rs) (A : Option Addr) (q : Nat) (w : World) (hb : Bs w A n bs) :
    Calls Try.prog 13 #[.slice A n q] w fun e w' => e = .returned (.tuple #[.agg #[.int .u32 0, .int .u32 0, .int .u32 0, .int .i64 0, .slice none 0 0], .int .i64 90]) ∧ Below w.heap.size w w' := by
  rcases nread_block A n q bs hn w hb with ⟨i1, i2, i3, i4, i5, hr, hc⟩ | ⟨_, hc⟩
  · exact absurd hr (h _ _ _ _ _)
  · exact hc
end Go.Proofs.Ytggdfecgkhnkkaa
