/- The reference of layer 2 (freeboardref02): what its functions compute. -/
import Derived.Test.YtclbihcggjjgaaaPackPlain
namespace Go.Proofs.Ytclbihcggjjgaaa
open Go.RowKit

theorem info_b : ∃ i, Try.prog.info? 5 = some i ∧ i.zero = some (.int .u8 0) ∧ i.size = 1 ∧ i.bytes = 1 := info_parts (by kernel_rfl)

/-- an own row of 128 bytes -/
def Own (w : World) (B g : Nat) (l : List UInt8) : Prop := w.ownsRow B 5 1 (.slice (some ⟨g, 0, none⟩) 128 128) 128 (l.map byteV)
theorem Own.set {w : World} {B g : Nat} {l : List UInt8} (h : Own w B g l) (j : Nat) (b : UInt8) : Own (w.setCell ⟨g, j, none⟩ (byteV b)) B g (l.set j b) := by
  have st := World.ownsRow.stored h j (byteV b)
  rw [← List.map_set] at st
  exact st.1
theorem Own.len {w : World} {B g : Nat} {l : List UInt8} (h : Own w B g l) : l.length = 128 := by have := h.1; simpa using this
theorem Own.cell {w : World} {B g : Nat} {l : List UInt8} (h : Own w B g l) (j : Nat) (hj : j < 128) : w.cell? ⟨g, j, none⟩ = some (.int .u8 ((l.getD j 0).toNat : Int)) := by
  rw [World.ownsRow.cellAt h j hj]
  simp [byteV, show j < l.length by rw [h.len]; exact hj]
theorem Own.bs {w : World} {B g : Nat} {l : List UInt8} (h : Own w B g l) : Bs w (some ⟨g, 0, none⟩) 128 l := Bs.of_ownS h
theorem made_zeros : (madeCells (Value.int .u8 0).cells (128 * 1)).toList = zeros.map byteV := by
  show (madeCells #[Value.int .u8 0] (128 * 1)).toList = _
  rw [toList_madeCells_one]
  simp [zeros, byteV]
/-- the first j bytes of a block over noughts -/
def fill (l : List UInt8) (j : Nat) : List UInt8 := l.take j ++ List.replicate (128 - j) 0
theorem fill_set (l : List UInt8) (hl : l.length = 128) (j : Nat) (hj : j < 128) : (fill l j).set j (l.getD j 0) = fill l (j + 1) := by
  have hg : l.getD j 0 = l[j]'(by omega) := by simp [show j < l.length by omega]
  unfold fill
  rw [hg, List.set_append_right _ _ (by simp; omega), List.length_take, Nat.min_eq_left (show j ≤ l.length by omega), Nat.sub_self,
    show 128 - j = (128 - (j + 1)) + 1 by omega, List.replicate_succ, List.set_cons_zero, List.take_succ_eq_append_getElem (by omega), List.append_assoc]
  rfl
theorem fill_all (l : List UInt8) (hl : l.length = 128) : fill l 128 = l := by simp [fill, ← hl]
theorem fill_none (l : List UInt8) : fill l 0 = zeros := by simp [fill, zeros]

set_option maxRecDepth 100000 in
theorem rwhole_some (b off n c : Nat) (bs : List UInt8) (hn : n = 128) (w : World) (hb : Bs w (some ⟨b, off, none⟩) n bs) :
    Calls Try.prog 72 #[.slice (some ⟨b, off, none⟩) n c] w fun e w' => ∃ g, e = .returned (.slice (some ⟨g, 0, none⟩) 128 128) ∧ w.heap.size ≤ g ∧ Own w' w.heap.size g bs ∧ Below w.heap.size w w' := by
  subst hn
  obtain ⟨i0, hi, hz0, hz1, hz2⟩ := info_b
  obtain ⟨b', off', hA, hblt, hc⟩ := hb.addr (by omega)
  injection hA with hA
  injection hA with e1 e2
  subst e1 e2
  have hl := hb.1
  clear hb
  have HC := Lib.hid hc
  clear hc
  go_enter Try.func72, Try.ntmps72
  go_wp2_with (first
    | (refine wpList_make_full w rfl (.const (.int .i64 128)) (.const (.int .i64 128)) 29 rfl w.heap.size 5 i0 (.int .u8 0) 1 Try.underlying29 hi hz0 hz1 .i64 .i64 128 128 128 rfl rfl rfl rfl (by rw [hz2]; omega) (by unfold maxLen; omega) (Nat.le_refl _) ?_; intro w2 own2 g2; rw [made_zeros] at own2; have b2 := Ext.grown (Below.refl _ _) g2 (by simp)))
  have HO : Hid (Own w2 w.heap.size w.heap.size zeros) := Lib.hid own2
  clear own2 g2
  go_loopw [4] (fun i wr => ∃ j : Nat, j ≤ 128 ∧ i = .int .i64 j ∧ Own wr w.heap.size w.heap.size (fill bs j) ∧ Below w.heap.size w wr) (fun i _ => 128 - (intOf i).toNat)
  case atStart => exact ⟨0, Nat.zero_le _, rfl, by rw [fill_none]; exact HO.out, b2⟩
  case round =>
    obtain ⟨j, hj, rfl, own, bw⟩ := hrel
    by_cases hlt : j < 128
    · have h1 : wr.cell? ⟨b, off + j, none⟩ = some (.int .u8 ((bs.getD j 0).toNat : Int)) := by
        rw [bw.cell (p := ⟨b, off + j, none⟩) hblt, HC.out j (by omega)]
        simp [show j < bs.length by omega]
      have h2 := own.cell j hlt
      have h3 := World.ownsRow.frozenAt own j
      have hnx := own.set j (bs.getD j 0)
      rw [fill_set bs hl j hlt] at hnx
      have HN := Lib.hid hnx
      have HC2 := HC
      clear HC hnx
      clear own
      generalize ((fill bs j).getD j 0).toNat = y at h2
      generalize bs.getD j 0 = z at h1 HN ⊢
      go_wp2
      exact ⟨⟨j + 1, by omega, by go_num, HN.out, bw.setCell (Nat.le_refl _) _⟩, by simp [intOf]; omega⟩
    · have hj' : j = 128 := by omega
      subst hj'
      go_wp2
      go_ret
      exact ⟨_, rfl, Nat.le_refl _, by rw [fill_all bs hl] at own; exact own, bw⟩
theorem rwhole_nil (A : Option Addr) (c : Nat) (w : World) :
    Calls Try.prog 72 #[.slice A 0 c] w fun e w' => ∃ g, e = .returned (.slice (some ⟨g, 0, none⟩) 128 128) ∧ w.heap.size ≤ g ∧ Own w' w.heap.size g zeros ∧ Below w.heap.size w w' := by
  obtain ⟨i0, hi, hz0, hz1, hz2⟩ := info_b
  go_enter Try.func72, Try.ntmps72
  go_wp2_with (first
    | (refine wpList_make_full w rfl (.const (.int .i64 128)) (.const (.int .i64 128)) 29 rfl w.heap.size 5 i0 (.int .u8 0) 1 Try.underlying29 hi hz0 hz1 .i64 .i64 128 128 128 rfl rfl rfl rfl (by rw [hz2]; omega) (by unfold maxLen; omega) (Nat.le_refl _) ?_; intro w2 own2 g2; rw [made_zeros] at own2; have b2 := Ext.grown (Below.refl _ _) g2 (by simp)))
  have HO : Hid (Own w2 w.heap.size w.heap.size zeros) := Lib.hid own2
  clear own2 g2
  refine wp_loop_rounds 1 ?_
  rw [rounds_succ]
  go_wp2
  go_ret
  exact ⟨_, rfl, Nat.le_refl _, HO.out, b2⟩
theorem rwhole_ok (A : Option Addr) (n c : Nat) (bs : List UInt8) (hn : n = 0 ∨ n = 128) (w : World) (hb : Bs w A n bs) :
    Calls Try.prog 72 #[.slice A n c] w fun e w' => ∃ g, e = .returned (.slice (some ⟨g, 0, none⟩) 128 128) ∧ w.heap.size ≤ g ∧ Own w' w.heap.size g (wholeL bs) ∧ Below w.heap.size w w' := by
  rcases hn with rfl | rfl
  · have : bs = [] := List.eq_nil_of_length_eq_zero hb.1
    subst this
    exact rwhole_nil A c w
  · obtain ⟨b, off, rfl, _, _⟩ := hb.addr (by omega)
    rw [wholeL_full hb.1]
    exact rwhole_some b off 128 c bs rfl w hb

end Go.Proofs.Ytclbihcggjjgaaa
