/- Layer 8 (split): the statements' own functions. -/
import Derived.Test.YtmoaflnggcbhkaaSplit3
namespace Go.Proofs.Ytmoaflnggcbhkaa
open Go.RowKit
set_option linter.unusedSimpArgs false
set_option linter.unusedVariables false

theorem BoxOf.setCell {w : World} {g : Nat} {cs : Array Value} {t : TypeId} (h : BoxOf w g cs t) (i : Nat) (v : Value) : BoxOf (w.setCell ⟨g, i, none⟩ v) g (cs.setIfInBounds i v) t := by
  unfold BoxOf at *
  simp [World.setCell, Array.getElem?_modify, h]
theorem BoxOf.setOther {w : World} {g k : Nat} {cs : Array Value} {t : TypeId} (h : BoxOf w g cs t) (hk : g ≠ k) (i : Nat) (v : Value) : BoxOf (w.setCell ⟨k, i, none⟩ v) g cs t := by
  unfold BoxOf at *
  rw [Below.heap_setCell _ _ _ _ hk]; exact h
theorem info_u8 : ∃ i, Try.prog.info? 5 = some i ∧ i.zero = some (.int .u8 0) ∧ i.size = 1 ∧ i.bytes = 1 := info_parts (by kernel_rfl)

def AskIs (k a y : Int) (w : World) (e : Ending) (w' : World) : Prop := ∃ (A : Option Addr) (n q : Nat), e = .returned (.agg #[.int .u8 k, .int .i64 a, .int .i64 y, .slice A n q]) ∧ (n : Int) = kWant k y ∧ Below w.heap.size w w'

theorem ask_none (k a y : Int) (hk : kBytes k = false) (w : World) : Calls Try.prog 12 #[.int .u8 k, .int .i64 a, .int .i64 y] w fun e w' => e = .returned (.agg #[.int .u8 k, .int .i64 a, .int .i64 y, .slice none 0 0]) ∧ Below w.heap.size w w' := by
  have hk' : ¬ (k = 2 ∨ k = 3) := of_decide_eq_false hk
  have h2 : (k == 2) = false := beq_eq_false_iff_ne.2 (fun e => hk' (.inl e))
  have h3 : (k == 3) = false := beq_eq_false_iff_ne.2 (fun e => hk' (.inr e))
  clear hk hk'
  go_enter Try.func12, Try.ntmps12
  have B0 := BoxOf.alloc (BoxOf.new w #[.int .u8 0, .int .i64 0, .int .i64 0, .slice none 0 0] 32) (.cells #[.int .u8 k, .int .i64 a, .int .i64 y, .slice none 0 0] 32)
  have B1 := Lib.hid B0
  have t0 := Ext.alloc (Ext.alloc (Below.refl w.heap.size w) (.cells #[.int .u8 0, .int .i64 0, .int .i64 0, .slice none 0 0] 32)) (.cells #[.int .u8 k, .int .i64 a, .int .i64 y, .slice none 0 0] 32)
  clear B0
  go_wp2_with (refine wpList_store_rowTo rfl 32 (.tmp 6) (.tmp 22) rfl rfl w.heap.size #[.int .u8 k, .int .i64 a, .int .i64 y, .slice none 0 0] rfl rfl 32 #[.int .u8 0, .int .i64 0, .int .i64 0, .slice none 0 0] B1.out (by kernel_rfl) rfl (by kernel_rfl) ?_)
  exact bodyPost_ret (v := .agg #[.int .u8 k, .int .i64 a, .int .i64 y, .slice none 0 0]) (results_cell_row rfl _ _ w.heap.size 32 #[.int .u8 k, .int .i64 a, .int .i64 y, .slice none 0 0] (0, 0) _ rfl (B1.out.set _) Try.underlying32 rfl (by kernel_rfl)) rfl ⟨rfl, Ext.setRow t0 (Nat.le_refl _) _⟩

theorem ask_bytes (k a : Int) (y : Nat) (hk : k = 2 ∨ k = 3) (hy : y ≤ 8) (w : World) : Calls Try.prog 12 #[.int .u8 k, .int .i64 a, .int .i64 y] w fun e w' => e = .returned (.agg #[.int .u8 k, .int .i64 a, .int .i64 y, .slice (some ⟨w.heap.size + 2, 0, none⟩) (128 * y) (128 * y)]) ∧ Below w.heap.size w w' := by
  obtain ⟨i0, hi, hz0, hz1, hz2⟩ := info_u8
  have hk2 : (k == 2) = true ∨ ((k == 2) = false ∧ (k == 3) = true) := by
    rcases hk with rfl | rfl
    · exact .inl rfl
    · exact .inr ⟨rfl, rfl⟩
  clear hk
  have hcast : (128 : Int) * (y : Int) = ((128 * y : Nat) : Int) := by omega
  have HC := Lib.hid hcast
  clear hcast
  rcases hk2 with h2 | ⟨h2, h3⟩
  all_goals
    go_enter Try.func12, Try.ntmps12
    have B0 := BoxOf.alloc (BoxOf.new w #[.int .u8 0, .int .i64 0, .int .i64 0, .slice none 0 0] 32) (.cells #[.int .u8 k, .int .i64 a, .int .i64 (y : Int), .slice none 0 0] 32)
    have D0 := BoxOf.new' (w.alloc (.cells #[.int .u8 0, .int .i64 0, .int .i64 0, .slice none 0 0] 32)) (w.heap.size + 1) #[.int .u8 k, .int .i64 a, .int .i64 (y : Int), .slice none 0 0] 32 (by simp)
    have t0 := Ext.alloc (Ext.alloc (Below.refl w.heap.size w) (.cells #[.int .u8 0, .int .i64 0, .int .i64 0, .slice none 0 0] 32)) (.cells #[.int .u8 k, .int .i64 a, .int .i64 (y : Int), .slice none 0 0] 32)
    have B1 := Lib.hid B0
    have D1 := Lib.hid D0
    clear B0 D0
    go_wp2_with (first
      | (refine wpList_make_full _ rfl (.tmp 19) (.tmp 19) 30 rfl (w.heap.size + 2) 5 i0 (.int .u8 0) 1 Try.underlying30 hi hz0 hz1 .i64 .i64 (128 * (y : Int)) (128 * (y : Int)) (128 * y) rfl rfl HC.out HC.out (by rw [hz2]; omega) (by unfold maxLen; omega) (by simp) ?_; intro w2 own2 g2; have D2 := D1.out.grown g2 (by simp); have x2 := D2.cell; have f2 := D2.free; have B2 : Hid (BoxOf _ w.heap.size _ _) := Lib.hid (B1.out.grown g2 (by simp)); have t2 := Below.grown t0 g2 (by simp; omega) (by simp); have D3 := Lib.hid D2; clear own2 g2 D2)
      | (refine wpList_store_rowTo rfl 32 (.tmp 6) (.tmp 22) rfl rfl w.heap.size #[.int .u8 k, .int .i64 a, .int .i64 (y : Int), .slice (some ⟨w.heap.size + 2, 0, none⟩) (128 * y) (128 * y)] rfl rfl 32 #[.int .u8 0, .int .i64 0, .int .i64 0, .slice none 0 0] (B2.out.setOther (by omega) _ _) (by kernel_rfl) rfl (by kernel_rfl) ?_))
    exact bodyPost_ret (v := .agg #[.int .u8 k, .int .i64 a, .int .i64 (y : Int), .slice (some ⟨w.heap.size + 2, 0, none⟩) (128 * y) (128 * y)]) (results_cell_row rfl _ _ w.heap.size 32 #[.int .u8 k, .int .i64 a, .int .i64 (y : Int), .slice (some ⟨w.heap.size + 2, 0, none⟩) (128 * y) (128 * y)] (0, 0) _ rfl ((B2.out.setOther (by omega) _ _).set _) Try.underlying32 rfl (by kernel_rfl)) rfl ⟨rfl, Ext.setRow (Below.setCell (p := ⟨w.heap.size + 1, 3, none⟩) t2 (by show w.heap.size ≤ w.heap.size + 1; omega) _) (Nat.le_refl _) _⟩
end Go.Proofs.Ytmoaflnggcbhkaa
