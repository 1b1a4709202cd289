/- Layer 10 (super): the reference. -/
import Derived.Test.YtgmlhfencidahaaRef09
import Derived.Test.YtgmlhfencidahaaSuper3
namespace Go.Proofs.Ytgmlhfencidahaa
open Go Go.RowKit
set_option linter.unusedSimpArgs false
set_option linter.unusedVariables false

set_option maxRecDepth 100000 in
theorem rsmay_bad (id age sq : Nat) (t : Int) (h : ¬ SupOk age sq t) (w : World) :
    Calls Try.prog 23 #[.agg #[.int .u32 (id : Int), .int .u32 (age : Int), .int .u32 (sq : Int), .int .i64 t]] w fun e w' => e = .returned (.bool false) ∧ Below w.heap.size w w' := by
  have hall : (age < 1) ∨ (1 ≤ age ∧ 2147483648 < age) ∨ ((1 ≤ age ∧ age ≤ 2147483648) ∧ sq < 1) ∨ ((1 ≤ age ∧ age ≤ 2147483648) ∧ 1 ≤ sq ∧ 2147483648 < sq) ∨
      ((1 ≤ age ∧ age ≤ 2147483648) ∧ (1 ≤ sq ∧ sq ≤ 2147483648) ∧ t < 0) ∨ ((1 ≤ age ∧ age ≤ 2147483648) ∧ (1 ≤ sq ∧ sq ≤ 2147483648) ∧ 0 ≤ t ∧ 255 ≤ t) := by
    unfold SupOk okN at h
    simp only [decide_eq_true_eq] at h
    omega
  clear h
  rcases hall with h1 | ⟨h1, h2⟩ | ⟨⟨h1, h2⟩, h3⟩ | ⟨⟨h1, h2⟩, h3, h4⟩ | ⟨⟨h1, h2⟩, ⟨h3, h4⟩, h5⟩ | ⟨⟨h1, h2⟩, ⟨h3, h4⟩, h5, h6⟩
  all_goals
    try have d6 : decide (t < 255) = false := decide_eq_false (by omega)
    go_enter Try.func23, Try.ntmps23
    go_wp2
    go_ret
    exact ⟨rfl, Ext.alloc (Below.refl _ _) _⟩

set_option maxRecDepth 100000 in
theorem rsmay_ok (id age sq : Nat) (t : Int) (h : SupOk age sq t) (w : World) :
    Calls Try.prog 23 #[.agg #[.int .u32 (id : Int), .int .u32 (age : Int), .int .u32 (sq : Int), .int .i64 t]] w fun e w' => e = .returned (.bool true) ∧ Below w.heap.size w w' := by
  obtain ⟨h1, h2, h3, h4⟩ := h
  unfold okN at h1 h2
  simp only [decide_eq_true_eq] at h1 h2
  obtain ⟨h11, h12⟩ := h1
  obtain ⟨h21, h22⟩ := h2
  go_enter Try.func23, Try.ntmps23
  go_wp2
  go_ret
  exact ⟨rfl, Ext.alloc (Below.refl _ _) _⟩

theorem rscheck_bad (id age sq : Nat) (t : Int) (h : ¬ SupOk age sq t) (w : World) :
    Calls Try.prog 16 #[.agg #[.int .u32 (id : Int), .int .u32 (age : Int), .int .u32 (sq : Int), .int .i64 t]] w fun e w' => e = .returned (.int .i64 8) ∧ Below w.heap.size w w' := by
  have HM := Lib.hid (rsmay_bad id age sq t h)
  clear h
  go_enter Try.func16, Try.ntmps16
  go_wp2_with fail
  have t0 := Ext.alloc (Below.refl w.heap.size w) (.cells #[.int .u32 (id : Int), .int .u32 (age : Int), .int .u32 (sq : Int), .int .i64 t] 24)
  refine (HM.out _).mono ?_
  rintro e w1 ⟨rfl, b1⟩
  go_wp2
  go_ret
  exact ⟨rfl, Ext.trans t0 b1⟩
theorem rscheck_ok (id age sq : Nat) (t : Int) (h : SupOk age sq t) (w : World) :
    Calls Try.prog 16 #[.agg #[.int .u32 (id : Int), .int .u32 (age : Int), .int .u32 (sq : Int), .int .i64 t]] w fun e w' => e = .returned (.int .i64 0) ∧ Below w.heap.size w w' := by
  have HM := Lib.hid (rsmay_ok id age sq t h)
  clear h
  go_enter Try.func16, Try.ntmps16
  go_wp2_with fail
  have t0 := Ext.alloc (Below.refl w.heap.size w) (.cells #[.int .u32 (id : Int), .int .u32 (age : Int), .int .u32 (sq : Int), .int .i64 t] 24)
  refine (HM.out _).mono ?_
  rintro e w1 ⟨rfl, b1⟩
  go_wp2
  go_ret
  exact ⟨rfl, Ext.trans t0 b1⟩

end Go.Proofs.Ytgmlhfencidahaa
