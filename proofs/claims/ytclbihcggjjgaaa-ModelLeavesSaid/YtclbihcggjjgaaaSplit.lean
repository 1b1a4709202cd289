/- Layer 8 (split): kinds, and whether a request may be. -/
import Derived.Test.YtclbihcggjjgaaaShapeRef
import Derived.Test.YtclbihcggjjgaaaBox
namespace Go.Proofs.Ytclbihcggjjgaaa
open Go.RowKit
set_option linter.unusedSimpArgs false
set_option linter.unusedVariables false

def kMost (k : Int) : Int := if k = 1 ∨ k = 2 ∨ k = 3 ∨ k = 5 then 8 else 0
def kBytes (k : Int) : Bool := decide (k = 2 ∨ k = 3)
def kWrites (k : Int) : Bool := decide (k = 2 ∨ k = 3 ∨ k = 5)
def kIs (k : Int) : Bool := decide (1 ≤ k ∧ k ≤ 6)

theorem of_1 (w : World) : Calls Try.prog 76 #[.int .u8 1] w fun e w' => e = .returned (.tuple #[.agg #[.int .i64 8, .bool false, .bool false], .bool true]) ∧ Below w.heap.size w w' := by
  go_enter Try.func76, Try.ntmps76
  go_wp2
  exact bodyPost_ret (v := .tuple #[.agg #[.int .i64 8, .bool false, .bool false], .bool true]) (Eq.trans (results_row2 (P := Try.prog) (fn := Try.f76) (p := 2) (u := 3) (ty := 120) rfl _ _ w.heap.size 120 #[.int .i64 8, .bool false, .bool false] (0, 0) _ rfl (heap_alloc_new _ _) Try.underlying120 rfl (by kernel_rfl)) rfl) rfl ⟨rfl, Ext.alloc (Below.refl _ _) _⟩
theorem of_2 (w : World) : Calls Try.prog 76 #[.int .u8 2] w fun e w' => e = .returned (.tuple #[.agg #[.int .i64 8, .bool true, .bool true], .bool true]) ∧ Below w.heap.size w w' := by
  go_enter Try.func76, Try.ntmps76
  go_wp2
  exact bodyPost_ret (v := .tuple #[.agg #[.int .i64 8, .bool true, .bool true], .bool true]) (Eq.trans (results_row2 (P := Try.prog) (fn := Try.f76) (p := 2) (u := 3) (ty := 120) rfl _ _ w.heap.size 120 #[.int .i64 8, .bool true, .bool true] (0, 0) _ rfl (heap_alloc_new _ _) Try.underlying120 rfl (by kernel_rfl)) rfl) rfl ⟨rfl, Ext.alloc (Below.refl _ _) _⟩
theorem of_3 (w : World) : Calls Try.prog 76 #[.int .u8 3] w fun e w' => e = .returned (.tuple #[.agg #[.int .i64 8, .bool true, .bool true], .bool true]) ∧ Below w.heap.size w w' := by
  go_enter Try.func76, Try.ntmps76
  go_wp2
  exact bodyPost_ret (v := .tuple #[.agg #[.int .i64 8, .bool true, .bool true], .bool true]) (Eq.trans (results_row2 (P := Try.prog) (fn := Try.f76) (p := 2) (u := 3) (ty := 120) rfl _ _ w.heap.size 120 #[.int .i64 8, .bool true, .bool true] (0, 0) _ rfl (heap_alloc_new _ _) Try.underlying120 rfl (by kernel_rfl)) rfl) rfl ⟨rfl, Ext.alloc (Below.refl _ _) _⟩
theorem of_4 (w : World) : Calls Try.prog 76 #[.int .u8 4] w fun e w' => e = .returned (.tuple #[.agg #[.int .i64 0, .bool false, .bool false], .bool true]) ∧ Below w.heap.size w w' := by
  go_enter Try.func76, Try.ntmps76
  go_wp2
  exact bodyPost_ret (v := .tuple #[.agg #[.int .i64 0, .bool false, .bool false], .bool true]) (Eq.trans (results_row2 (P := Try.prog) (fn := Try.f76) (p := 2) (u := 3) (ty := 120) rfl _ _ w.heap.size 120 #[.int .i64 0, .bool false, .bool false] (0, 0) _ rfl (heap_alloc_new _ _) Try.underlying120 rfl (by kernel_rfl)) rfl) rfl ⟨rfl, Ext.alloc (Below.refl _ _) _⟩
theorem of_5 (w : World) : Calls Try.prog 76 #[.int .u8 5] w fun e w' => e = .returned (.tuple #[.agg #[.int .i64 8, .bool false, .bool true], .bool true]) ∧ Below w.heap.size w w' := by
  go_enter Try.func76, Try.ntmps76
  go_wp2
  exact bodyPost_ret (v := .tuple #[.agg #[.int .i64 8, .bool false, .bool true], .bool true]) (Eq.trans (results_row2 (P := Try.prog) (fn := Try.f76) (p := 2) (u := 3) (ty := 120) rfl _ _ w.heap.size 120 #[.int .i64 8, .bool false, .bool true] (0, 0) _ rfl (heap_alloc_new _ _) Try.underlying120 rfl (by kernel_rfl)) rfl) rfl ⟨rfl, Ext.alloc (Below.refl _ _) _⟩
theorem of_6 (w : World) : Calls Try.prog 76 #[.int .u8 6] w fun e w' => e = .returned (.tuple #[.agg #[.int .i64 0, .bool false, .bool false], .bool true]) ∧ Below w.heap.size w w' := by
  go_enter Try.func76, Try.ntmps76
  go_wp2
  exact bodyPost_ret (v := .tuple #[.agg #[.int .i64 0, .bool false, .bool false], .bool true]) (Eq.trans (results_row2 (P := Try.prog) (fn := Try.f76) (p := 2) (u := 3) (ty := 120) rfl _ _ w.heap.size 120 #[.int .i64 0, .bool false, .bool false] (0, 0) _ rfl (heap_alloc_new _ _) Try.underlying120 rfl (by kernel_rfl)) rfl) rfl ⟨rfl, Ext.alloc (Below.refl _ _) _⟩
theorem of_no (k : Int) (hk : ¬ (1 ≤ k ∧ k ≤ 6)) (w : World) : Calls Try.prog 76 #[.int .u8 k] w fun e w' => e = .returned (.tuple #[.agg #[.int .i64 0, .bool false, .bool false], .bool false]) ∧ Below w.heap.size w w' := by
  have h1 : (k == 1) = false := by simp; omega
  have h2 : (k == 2) = false := by simp; omega
  have h3 : (k == 3) = false := by simp; omega
  have h4 : (k == 4) = false := by simp; omega
  have h5 : (k == 5) = false := by simp; omega
  have h6 : (k == 6) = false := by simp; omega
  clear hk
  go_enter Try.func76, Try.ntmps76
  go_wp2
  exact bodyPost_ret (v := .tuple #[.agg #[.int .i64 0, .bool false, .bool false], .bool false]) (Eq.trans (results_row2 (P := Try.prog) (fn := Try.f76) (p := 2) (u := 3) (ty := 120) rfl _ _ w.heap.size 120 #[.int .i64 0, .bool false, .bool false] (0, 0) _ rfl (heap_alloc_new _ _) Try.underlying120 rfl (by kernel_rfl)) rfl) rfl ⟨rfl, Ext.alloc (Below.refl _ _) _⟩
theorem of_any (k : Int) (w : World) : Calls Try.prog 76 #[.int .u8 k] w fun e w' => e = .returned (.tuple #[.agg #[.int .i64 (kMost k), .bool (kBytes k), .bool (kWrites k)], .bool (kIs k)]) ∧ Below w.heap.size w w' := by
  by_cases hk : 1 ≤ k ∧ k ≤ 6
  · rcases (show k = 1 ∨ k = 2 ∨ k = 3 ∨ k = 4 ∨ k = 5 ∨ k = 6 by omega) with rfl | rfl | rfl | rfl | rfl | rfl
    · exact of_1 w
    · exact of_2 w
    · exact of_3 w
    · exact of_4 w
    · exact of_5 w
    · exact of_6 w
  · have h := of_no k hk w
    have e1 : kMost k = 0 := if_neg (by omega)
    have e2 : kBytes k = false := decide_eq_false (by omega)
    have e3 : kWrites k = false := decide_eq_false (by omega)
    have e4 : kIs k = false := decide_eq_false hk
    rw [e1, e2, e3, e4]
    exact h
end Go.Proofs.Ytclbihcggjjgaaa
