/- Layer 9 (label): Read, whatever comes in; a label's block, as plain bytes. -/
import Derived.Test.YtgmlhfencidahaaLabel4
namespace Go.Proofs.Ytgmlhfencidahaa
open Go Go.RowKit
set_option linter.unusedSimpArgs false
set_option linter.unusedVariables false

/-- are these bytes a label's block, and of which? -/
structure LabIs (bs : List UInt8) (id ev m c r l me lo dn : Nat) (op : Bool) : Prop where
  qid : id = takeN (wholeL bs) 1 4
  qev : ev = takeN (wholeL bs) 5 4
  qm : m = takeN (wholeL bs) 9 1
  qc : c = takeN (wholeL bs) 10 1
  qr : r = takeN (wholeL bs) 11 1
  ql : l = takeN (wholeL bs) 12 1
  qme : me = takeN (wholeL bs) 13 1
  qlo : lo = takeN (wholeL bs) 14 1
  qdn : dn = takeN (wholeL bs) 15 1
  qop : op = (((takeN (wholeL bs) 16 1 : Nat) : Int) == 1)
  ok : (lab id ev m c r l me lo dn op).Ok
  bs : labBlock id ev m c r l me lo dn op = bs

theorem lab_id {bs : List UInt8} {id ev m c r l me lo dn : Nat} {op : Bool} (h : LabIs bs id ev m c r l me lo dn op) : id < 4294967296 := by rw [h.qid]; exact takeN_lt _ 1 4
theorem lread_block (A : Option Addr) (n q : Nat) (bs : List UInt8) (hn : n = 0 ∨ n = 128) (w : World) (hb : Bs w A n bs) :
    (∃ id ev m c r l me lo dn op, LabIs bs id ev m c r l me lo dn op ∧ Calls Try.prog 17 #[.slice A n q] w fun e w' => e = .returned (.tuple #[.agg #[.int .u32 (id : Int), .int .u32 (ev : Int), .int .i64 (m : Int), .int .i64 (c : Int), .int .i64 (r : Int), .int .i64 (l : Int), .int .i64 (me : Int), .int .i64 (lostI lo), .int .i64 (dn : Int), .bool op], .int .i64 0]) ∧ Below w.heap.size w w') ∨
    ((∀ id ev m c r l me lo dn op, ¬ LabIs bs id ev m c r l me lo dn op) ∧ Calls Try.prog 17 #[.slice A n q] w fun e w' => e = .returned (.tuple #[.agg #[.int .u32 0, .int .u32 0, .int .i64 0, .int .i64 0, .int .i64 0, .int .i64 0, .int .i64 0, .int .i64 0, .int .i64 0, .bool false], .int .i64 90]) ∧ Below w.heap.size w w') := by
  have b1 : takeN (wholeL bs) 1 4 < 4294967296 := takeN_lt _ 1 4
  have b2 : takeN (wholeL bs) 5 4 < 4294967296 := takeN_lt _ 5 4
  have core := fun ws E h5 R C hR => lread_core A n q bs hn (takeN (wholeL bs) 1 4) (takeN (wholeL bs) 5 4) (takeN (wholeL bs) 9 1) (takeN (wholeL bs) 10 1) (takeN (wholeL bs) 11 1) (takeN (wholeL bs) 12 1) (takeN (wholeL bs) 13 1) (takeN (wholeL bs) 14 1) (takeN (wholeL bs) 15 1) (takeN (wholeL bs) 16 1) _ rfl b1 b2 rfl ws E h5 R C hR w hb
  by_cases hok : (lab (takeN (wholeL bs) 1 4) (takeN (wholeL bs) 5 4) (takeN (wholeL bs) 9 1) (takeN (wholeL bs) 10 1) (takeN (wholeL bs) 11 1) (takeN (wholeL bs) 12 1) (takeN (wholeL bs) 13 1) (takeN (wholeL bs) 14 1) (takeN (wholeL bs) 15 1) (((takeN (wholeL bs) 16 1 : Nat) : Int) == 1)).Ok
  · have h5 := fun W => (lwrite_ok _ _ _ _ _ _ _ _ _ _ b1 hok W).mono fun e w' ⟨g, he, _, hB, hbl⟩ => (⟨_, _, _, he, hB.bs, hbl⟩ : ∃ P k c, e = Ending.returned (.tuple #[.slice P k c, .int .i64 0]) ∧ Bs w' P k _ ∧ Below W.heap.size W w')
    by_cases hbs : labBlock (takeN (wholeL bs) 1 4) (takeN (wholeL bs) 5 4) (takeN (wholeL bs) 9 1) (takeN (wholeL bs) 10 1) (takeN (wholeL bs) 11 1) (takeN (wholeL bs) 12 1) (takeN (wholeL bs) 13 1) (takeN (wholeL bs) 14 1) (takeN (wholeL bs) 15 1) (((takeN (wholeL bs) 16 1 : Nat) : Int) == 1) = bs
    · exact .inl ⟨_, _, _, _, _, _, _, _, _, _, ⟨rfl, rfl, rfl, rfl, rfl, rfl, rfl, rfl, rfl, rfl, hok, hbs⟩, core _ _ h5 _ _ (.inr (.inr ⟨rfl, hbs, rfl, rfl⟩))⟩
    · refine .inr ⟨?_, core _ _ h5 _ _ (.inr (.inl ⟨rfl, hbs, rfl, rfl⟩))⟩
      rintro i1 i2 i3 i4 i5 i6 i7 i8 i9 i10 ⟨rfl, rfl, rfl, rfl, rfl, rfl, rfl, rfl, rfl, rfl, _, h⟩
      exact hbs h
  · have h5 := fun W => (lwrite_bad _ hok W).mono fun e w' ⟨he, hbl⟩ => (⟨_, _, _, he, Bs.nil _ _, hbl⟩ : ∃ P k c, e = Ending.returned (.tuple #[.slice P k c, .int .i64 8]) ∧ Bs w' P k [] ∧ Below W.heap.size W w')
    refine .inr ⟨?_, core _ _ h5 _ _ (.inl ⟨rfl, rfl, rfl⟩)⟩
    rintro i1 i2 i3 i4 i5 i6 i7 i8 i9 i10 ⟨rfl, rfl, rfl, rfl, rfl, rfl, rfl, rfl, rfl, rfl, h, _⟩
    exact hok h

theorem labBlock_len (id ev m c r l me lo dn : Nat) (op : Bool) : (labBlock id ev m c r l me lo dn op).length = 128 := rowsBlock_len _ (by rw [labRows_size]; decide)
theorem labBlock_sealed (id ev m c r l me lo dn : Nat) (op : Bool) : Sealed (labBlock id ev m c r l me lo dn op) := rowsBlock_sealed _ (by rw [labRows_size]; decide)
/-- what is written is read -/
theorem lab_own {id ev m c r l me lo dn : Nat} {op : Bool} (hi : id < 4294967296) (hok : (lab id ev m c r l me lo dn op).Ok) : LabIs (labBlock id ev m c r l me lo dn op) id ev m c r l me lo dn op := by
  have hc := lab_consec hi hok
  have t : ∀ x ∈ labRows id ev m c r l me lo dn op, x.1 = takeN (wholeL (labBlock id ev m c r l me lo dn op)) x.2.1 x.2.2 := fun x hx => (rowsBlock_take _ hc (by rw [labRows_size]; decide) x hx).symm
  refine ⟨t (id, 1, 4) (by simp [labRows]), t (ev, 5, 4) (by simp [labRows]), t (m, 9, 1) (by simp [labRows]), t (c, 10, 1) (by simp [labRows]), t (r, 11, 1) (by simp [labRows]), t (l, 12, 1) (by simp [labRows]), t (me, 13, 1) (by simp [labRows]), t (lo, 14, 1) (by simp [labRows]), t (dn, 15, 1) (by simp [labRows]), ?_, hok, rfl⟩
  rw [← t (opN op, 16, 1) (by simp [labRows])]
  cases op <;> rfl
theorem lab_one {bs : List UInt8} {id ev m c r l me lo dn : Nat} {op : Bool} {id' ev' m' c' r' l' me' lo' dn' : Nat} {op' : Bool} (h : LabIs bs id ev m c r l me lo dn op) (h' : LabIs bs id' ev' m' c' r' l' me' lo' dn' op') :
    id = id' ∧ ev = ev' ∧ m = m' ∧ c = c' ∧ r = r' ∧ l = l' ∧ me = me' ∧ lo = lo' ∧ dn = dn' ∧ op = op' :=
  ⟨h.qid.trans h'.qid.symm, h.qev.trans h'.qev.symm, h.qm.trans h'.qm.symm, h.qc.trans h'.qc.symm, h.qr.trans h'.qr.symm, h.ql.trans h'.ql.symm, h.qme.trans h'.qme.symm, h.qlo.trans h'.qlo.symm, h.qdn.trans h'.qdn.symm, h.qop.trans h'.qop.symm⟩
theorem lab_len {bs : List UInt8} {id ev m c r l me lo dn : Nat} {op : Bool} (h : LabIs bs id ev m c r l me lo dn op) : bs.length = 128 := by rw [← h.bs]; exact labBlock_len _ _ _ _ _ _ _ _ _ _
theorem lab_sealed {bs : List UInt8} {id ev m c r l me lo dn : Nat} {op : Bool} (h : LabIs bs id ev m c r l me lo dn op) : Sealed bs := by rw [← h.bs]; exact labBlock_sealed _ _ _ _ _ _ _ _ _ _
theorem lread_yes {n : Nat} {bs : List UInt8} {id ev m c r l me lo dn : Nat} {op : Bool} (h : LabIs bs id ev m c r l me lo dn op) (A : Option Addr) (q : Nat) (w : World) (hb : Bs w A n bs) :
    Calls Try.prog 17 #[.slice A n q] w fun e w' => e = .returned (.tuple #[.agg #[.int .u32 (id : Int), .int .u32 (ev : Int), .int .i64 (m : Int), .int .i64 (c : Int), .int .i64 (r : Int), .int .i64 (l : Int), .int .i64 (me : Int), .int .i64 (lostI lo), .int .i64 (dn : Int), .bool op], .int .i64 0]) ∧ Below w.heap.size w w' := by
  have hn : n = 128 := by rw [← hb.1]; exact lab_len h
  rcases lread_block A n q bs (.inr hn) w hb with ⟨i1, i2, i3, i4, i5, i6, i7, i8, i9, i10, hr, hc⟩ | ⟨hno, _⟩
  · obtain ⟨rfl, rfl, rfl, rfl, rfl, rfl, rfl, rfl, rfl, rfl⟩ := lab_one hr h
    exact hc
  · exact absurd h (hno _ _ _ _ _ _ _ _ _ _)
theorem lread_no {n : Nat} {bs : List UInt8} (hn : n = 0 ∨ n = 128) (h : ∀ id ev m c r l me lo dn op, ¬ LabIs bs id ev m c r l me lo dn op) (A : Option Addr) (q : Nat) (w : World) (hb : Bs w A n bs) :
    Calls Try.prog 17 #[.slice A n q] w fun e w' => e = .returned (.tuple #[.agg #[.int .u32 0, .int .u32 0, .int .i64 0, .int .i64 0, .int .i64 0, .int .i64 0, .int .i64 0, .int .i64 0, .int .i64 0, .bool false], .int .i64 90]) ∧ Below w.heap.size w w' := by
  rcases lread_block A n q bs hn w hb with ⟨i1, i2, i3, i4, i5, i6, i7, i8, i9, i10, hr, hc⟩ | ⟨_, hc⟩
  · exact absurd hr (h _ _ _ _ _ _ _ _ _ _)
  · exact hc
theorem lread_own (A : Option Addr) (n q : Nat) (id ev m c r l me lo dn : Nat) (op : Bool) (hi : id < 4294967296) (hok : (lab id ev m c r l me lo dn op).Ok) (w : World) (hb : Bs w A n (labBlock id ev m c r l me lo dn op)) :
    Calls Try.prog 17 #[.slice A n q] w fun e w' => e = .returned (.tuple #[.agg #[.int .u32 (id : Int), .int .u32 (ev : Int), .int .i64 (m : Int), .int .i64 (c : Int), .int .i64 (r : Int), .int .i64 (l : Int), .int .i64 (me : Int), .int .i64 (lostI lo), .int .i64 (dn : Int), .bool op], .int .i64 0]) ∧ Below w.heap.size w w' := lread_yes (lab_own hi hok) A q w hb
theorem lread_nil (w : World) : Calls Try.prog 17 #[.slice none 0 0] w fun e w' => e = .returned (.tuple #[.agg #[.int .u32 0, .int .u32 0, .int .i64 0, .int .i64 0, .int .i64 0, .int .i64 0, .int .i64 0, .int .i64 0, .int .i64 0, .bool false], .int .i64 90]) ∧ Below w.heap.size w w' :=
  lread_no (.inl rfl) (fun _ _ _ _ _ _ _ _ _ _ h => absurd (lab_len h) (by decide)) none 0 w (Bs.nil _ _)
/-- a label that may be, in naturals -/
theorem lab_nat (x : Lab) (h : x.Ok) : ∃ id ev m c r l me lo dn op, x = lab id ev m c r l me lo dn op ∧ x.id = id ∧ x.ev = ev := by
  obtain ⟨hc, h1, h2, h3, h4, h5, h6, h7, h8⟩ := h
  have h10 := Cfg.bounds hc
  obtain ⟨id, ev, m, c, r, l, me, lost, dn, op⟩ := x
  unfold Lab.cfg at *
  dsimp only at *
  refine ⟨id, ev, m.toNat, c.toNat, r.toNat, l.toNat, me.toNat, if lost = -1 then 255 else lost.toNat, dn.toNat, op, ?_, rfl, rfl⟩
  have e : lostI (if lost = -1 then 255 else lost.toNat) = lost := by
    unfold lostI
    by_cases hl : lost = -1
    · rw [if_pos hl, if_pos rfl, hl]
    · rw [if_neg hl, if_neg (by omega)]; omega
  unfold lab
  rw [e]
  have e1 : (m.toNat : Int) = m := by omega
  have e2 : (c.toNat : Int) = c := by omega
  have e3 : (r.toNat : Int) = r := by omega
  have e4 : (l.toNat : Int) = l := by
    have := h10.2.2.2.2.2.2.2.2.1
    have : 0 ≤ (m + 1) * (2 + 1) := Int.mul_nonneg (by omega) (by omega)
    omega
  have e5 : (me.toNat : Int) = me := by omega
  have e6 : (dn.toNat : Int) = dn := by omega
  rw [e1, e2, e3, e4, e5, e6]
end Go.Proofs.Ytgmlhfencidahaa
