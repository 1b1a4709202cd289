/- Layer 8 (split): numbers, and the chapter's examples. -/
import Derived.Test.YtmoaflnggcbhkaaSplit6
import Derived.Test.YtmoaflnggcbhkaaSplitLaws
namespace Go.Proofs.Ytmoaflnggcbhkaa
open Go.RowKit
set_option linter.unusedSimpArgs false
set_option linter.unusedVariables false

theorem ask_bytes1 (w : World) : Calls Try.prog 12 #[.int .u8 2, .int .i64 1, .int .i64 1] w fun e w' => e = .returned (.agg #[.int .u8 2, .int .i64 1, .int .i64 1, .slice (some ⟨w.heap.size + 2, 0, none⟩) 128 128]) ∧ Below w.heap.size w w' :=
  ask_bytes 2 1 1 (by decide) (by decide) w
theorem anychk (m c r l h k a y : Int) (w : World) : Calls Try.prog 11 #[.agg #[.int .u32 0, .int .i64 m, .int .i64 c, .int .i64 r, .int .i64 l, .int .i64 h], .agg #[.int .u8 k, .int .i64 a, .int .i64 y, .slice none 0 0]] w fun e w' => e = .returned (.int .i64 (askCode ⟨0, m, c, r, l, h⟩ k a y 0)) ∧ Below w.heap.size w w' :=
  scheck_all ⟨0, m, c, r, l, h⟩ k a y none 0 0 w
theorem ftch1 (g : Nat) (w : World) : Calls Try.prog 15 #[.agg #[.int .u32 0, .int .i64 3, .int .i64 1, .int .i64 2, .int .i64 12, .int .i64 2], .agg #[.int .u8 2, .int .i64 1, .int .i64 1, .slice (some ⟨g, 0, none⟩) 128 128], .agg #[.int .u8 1, .int .i64 0, .int .i64 2, .slice none 0 0]] w fun e w' => e = .returned (.tuple #[.bool true, .int .i64 0]) ∧ Below w.heap.size w w' :=
  touch_all fourC 2 1 1 1 0 2 (some ⟨g, 0, none⟩) none 128 128 0 0 (by decide) (by decide) w
theorem ftch2 (w : World) : Calls Try.prog 15 #[.agg #[.int .u32 0, .int .i64 3, .int .i64 1, .int .i64 2, .int .i64 12, .int .i64 2], .agg #[.int .u8 1, .int .i64 0, .int .i64 1, .slice none 0 0], .agg #[.int .u8 1, .int .i64 0, .int .i64 1, .slice none 0 0]] w fun e w' => e = .returned (.tuple #[.bool false, .int .i64 0]) ∧ Below w.heap.size w w' :=
  touch_all fourC 1 0 1 1 0 1 none none 0 0 0 0 (by decide) (by decide) w
theorem ftch3 (w : World) : Calls Try.prog 15 #[.agg #[.int .u32 0, .int .i64 3, .int .i64 1, .int .i64 2, .int .i64 12, .int .i64 2], .agg #[.int .u8 5, .int .i64 0, .int .i64 1, .slice none 0 0], .agg #[.int .u8 5, .int .i64 0, .int .i64 1, .slice none 0 0]] w fun e w' => e = .returned (.tuple #[.bool true, .int .i64 0]) ∧ Below w.heap.size w w' :=
  touch_all fourC 5 0 1 5 0 1 none none 0 0 0 0 (by decide) (by decide) w
theorem fblk (w : World) : Calls Try.prog 14 #[.agg #[.int .u32 0, .int .i64 3, .int .i64 1, .int .i64 2, .int .i64 12, .int .i64 2], .agg #[.int .u8 4, .int .i64 0, .int .i64 0, .slice none 0 0]] w fun e w' => ∃ P c, e = .returned (.tuple #[.slice P 0 c, .int .i64 0]) ∧ Below w.heap.size w w' := by
  refine (sblocks_ok fourC 4 0 0 none 0 0 (by decide) (by decide) (scheck_ok fourC fourC_ok 4 0 0 none 0 0 (by decide) (by decide)) w).mono ?_
  rintro e w' ⟨v, rfl, o, b⟩
  obtain ⟨P, c, rfl, _, _⟩ := own_rd o
  exact ⟨P, c, rfl, b⟩

set_option maxRecDepth 100000 in
set_option maxHeartbeats 4000000 in
theorem splitNames_walk (w : World) : Calls Try.prog 5 #[] w fun e w' => e = .returned (.bool true) ∧ Below w.heap.size w w' := by
  go_enter Try.func5, Try.ntmps5
  go_wp2_with fail
  refine (four_any _).mono ?_
  rintro e w1 ⟨rfl, b1⟩
  go_wp2_with fail
  have A1 := BoxOf.new w1 #[.int .u32 0, .int .i64 3, .int .i64 1, .int .i64 2, .int .i64 12, .int .i64 2] 24
  have t1 := Ext.alloc b1 (.cells #[.int .u32 0, .int .i64 3, .int .i64 1, .int .i64 2, .int .i64 12, .int .i64 2] 24)
  have x1 := A1.cell
  obtain ⟨g, hg⟩ : ∃ g, g = w1.heap.size := ⟨_, rfl⟩
  rw [← hg] at A1 x1 ⊢
  generalize w1.alloc (.cells #[.int .u32 0, .int .i64 3, .int .i64 1, .int .i64 2, .int .i64 12, .int .i64 2] 24) = W at A1 t1 x1 ⊢
  clear hg b1
  go_region_held3 (fun w' => Below w.heap.size w w' ∧ BoxOf w' g #[.int .u32 0, .int .i64 3, .int .i64 1, .int .i64 2, .int .i64 12, .int .i64 2] 24 ∧ ∀ o, w'.cell? ⟨g, o, none⟩ = #[.int .u32 0, .int .i64 3, .int .i64 1, .int .i64 2, .int .i64 12, .int .i64 2].toList[o]?)
    (first | exact ⟨Ext.drew t1, A1.drew, x1⟩ | exact ⟨Ext.trans (And.left (by assumption)) k3, BoxOf.next (And.left (And.right (by assumption))) k3, (BoxOf.next (And.left (And.right (by assumption))) k3).cell⟩ | assumption)
    (first
      | (go_at_call 12; (first | refine (ask_none _ _ _ (by decide) _).mono ?_ | refine (ask_bytes1 _).mono ?_); rintro e w3 ⟨rfl, k3⟩)
      | (go_at_call 14; refine (fblk _).mono ?_; rintro e w4 ⟨P0, c0, rfl, k3⟩))
  rename_i hH
  obtain ⟨t2, A2, x2⟩ := hH
  clear x1 A1 t1
  have t1 := t2
  have A1 := A2
  have x1 := x2
  clear t2 A2 x2
  go_wp2_with fail
  go_region_held3 (fun w' => Below w.heap.size w w' ∧ BoxOf w' g #[.int .u32 0, .int .i64 3, .int .i64 1, .int .i64 2, .int .i64 12, .int .i64 2] 24 ∧ ∀ o, w'.cell? ⟨g, o, none⟩ = #[.int .u32 0, .int .i64 3, .int .i64 1, .int .i64 2, .int .i64 12, .int .i64 2].toList[o]?)
    (first | exact ⟨Ext.drew t1, A1.drew, x1⟩ | exact ⟨Ext.trans (And.left (by assumption)) k3, BoxOf.next (And.left (And.right (by assumption))) k3, (BoxOf.next (And.left (And.right (by assumption))) k3).cell⟩ | assumption)
    (first
      | (go_at_call 12; (first | refine (ask_none _ _ _ (by decide) _).mono ?_ | refine (ask_bytes1 _).mono ?_); rintro e w3 ⟨rfl, k3⟩)
      | (go_at_call 15; refine (ftch1 _ _).mono ?_; rintro e w4 ⟨rfl, k3⟩))
  rename_i hH
  obtain ⟨t2, A2, x2⟩ := hH
  clear x1 A1 t1
  have t1 := t2
  have A1 := A2
  have x1 := x2
  clear t2 A2 x2
  go_wp2_with fail
  go_region_held3 (fun w' => Below w.heap.size w w' ∧ BoxOf w' g #[.int .u32 0, .int .i64 3, .int .i64 1, .int .i64 2, .int .i64 12, .int .i64 2] 24 ∧ ∀ o, w'.cell? ⟨g, o, none⟩ = #[.int .u32 0, .int .i64 3, .int .i64 1, .int .i64 2, .int .i64 12, .int .i64 2].toList[o]?)
    (first | exact ⟨Ext.drew t1, A1.drew, x1⟩ | exact ⟨Ext.trans (And.left (by assumption)) k3, BoxOf.next (And.left (And.right (by assumption))) k3, (BoxOf.next (And.left (And.right (by assumption))) k3).cell⟩ | assumption)
    (first
      | (go_at_call 12; (first | refine (ask_none _ _ _ (by decide) _).mono ?_ | refine (ask_bytes1 _).mono ?_); rintro e w3 ⟨rfl, k3⟩)
      | (go_at_call 15; refine (ftch2 _).mono ?_; rintro e w4 ⟨rfl, k3⟩))
  rename_i hH
  obtain ⟨t2, A2, x2⟩ := hH
  clear x1 A1 t1
  have t1 := t2
  have A1 := A2
  have x1 := x2
  clear t2 A2 x2
  go_wp2_with fail
  go_region_held3 (fun w' => Below w.heap.size w w' ∧ BoxOf w' g #[.int .u32 0, .int .i64 3, .int .i64 1, .int .i64 2, .int .i64 12, .int .i64 2] 24 ∧ ∀ o, w'.cell? ⟨g, o, none⟩ = #[.int .u32 0, .int .i64 3, .int .i64 1, .int .i64 2, .int .i64 12, .int .i64 2].toList[o]?)
    (first | exact ⟨Ext.drew t1, A1.drew, x1⟩ | exact ⟨Ext.trans (And.left (by assumption)) k3, BoxOf.next (And.left (And.right (by assumption))) k3, (BoxOf.next (And.left (And.right (by assumption))) k3).cell⟩ | assumption)
    (first
      | (go_at_call 12; (first | refine (ask_none _ _ _ (by decide) _).mono ?_ | refine (ask_bytes1 _).mono ?_); rintro e w3 ⟨rfl, k3⟩)
      | (go_at_call 15; refine (ftch3 _).mono ?_; rintro e w4 ⟨rfl, k3⟩))
  rename_i hH
  obtain ⟨t2, A2, x2⟩ := hH
  clear x1 A1 t1
  have t1 := t2
  have A1 := A2
  have x1 := x2
  clear t2 A2 x2
  go_wp2_with fail
  have e1 : askCode ⟨0, 3, 1, 2, 12, 2⟩ 1 3 2 0 = 2 := by decide
  have e2 : askCode ⟨0, 3, 1, 2, 12, 2⟩ 1 0 9 0 = 2 := by decide
  have e3 : askCode ⟨0, 3, 1, 2, 12, 2⟩ 2 0 1 0 = 3 := by decide
  have e4 : askCode ⟨0, 3, 1, 2, 12, 2⟩ 7 0 1 0 = 2 := by decide
  have e5 : askCode ⟨0, 0, 0, 0, 0, 0⟩ 1 0 1 0 = 8 := by decide
  go_region_held3 (fun w' => Below w.heap.size w w' ∧ BoxOf w' g #[.int .u32 0, .int .i64 3, .int .i64 1, .int .i64 2, .int .i64 12, .int .i64 2] 24 ∧ ∀ o, w'.cell? ⟨g, o, none⟩ = #[.int .u32 0, .int .i64 3, .int .i64 1, .int .i64 2, .int .i64 12, .int .i64 2].toList[o]?)
    (first | exact ⟨Ext.drew t1, A1.drew, x1⟩ | exact ⟨Ext.trans (And.left (by assumption)) k3, BoxOf.next (And.left (And.right (by assumption))) k3, (BoxOf.next (And.left (And.right (by assumption))) k3).cell⟩ | assumption)
    (first
      | (go_at_call 12; (first | refine (ask_none _ _ _ (by decide) _).mono ?_ | refine (ask_bytes1 _).mono ?_); rintro e w3 ⟨rfl, k3⟩)
      | (go_at_call 11; refine (anychk _ _ _ _ _ _ _ _ _).mono ?_; simp only [e1, e2, e3, e4, e5]; rintro e w4 ⟨rfl, k3⟩))
  rename_i hH
  obtain ⟨t2, A2, x2⟩ := hH
  clear x1 A1 t1
  have t1 := t2
  have A1 := A2
  have x1 := x2
  clear t2 A2 x2
  clear e1 e2 e3 e4 e5
  go_wp2_with fail
  refine (spalive_any _).mono ?_
  rintro e w9 ⟨rfl, b9⟩
  have t9 := Ext.trans t1 b9
  clear t1 A1 x1 b9
  go_wp2
  go_ret
  exact ⟨rfl, t9⟩
end Go.Proofs.Ytmoaflnggcbhkaa
