/- Layer 8 (split): the document's answer: whether a request may be. -/
import Derived.Test.YtclbihcggjjgaaaSplit2
namespace Go.Proofs.Ytclbihcggjjgaaa
open Go.RowKit
set_option linter.unusedSimpArgs false
set_option linter.unusedVariables false

theorem rwrites_any (k : Int) (w : World) : Calls Try.prog 71 #[.int .u8 k] w fun e w' => e = .returned (.bool (kWrites k)) ∧ w = w' := by
  by_cases h2 : k = 2
  · subst h2; go_enter Try.func71, Try.ntmps71; go_wp2; go_ret; exact ⟨rfl, rfl⟩
  by_cases h3 : k = 3
  · subst h3; go_enter Try.func71, Try.ntmps71; go_wp2; go_ret; exact ⟨rfl, rfl⟩
  by_cases h5 : k = 5
  · subst h5; go_enter Try.func71, Try.ntmps71; go_wp2; go_ret; exact ⟨rfl, rfl⟩
  have e : kWrites k = false := decide_eq_false (by omega)
  have g2 : (k == 2) = false := beq_eq_false_iff_ne.2 h2
  have g3 : (k == 3) = false := beq_eq_false_iff_ne.2 h3
  have g5 : (k == 5) = false := beq_eq_false_iff_ne.2 h5
  rw [e]
  clear e h2 h3 h5
  go_enter Try.func71, Try.ntmps71; go_wp2; go_ret; exact ⟨rfl, rfl⟩
theorem rbytes_any (k : Int) (w : World) : Calls Try.prog 83 #[.int .u8 k] w fun e w' => e = .returned (.bool (kBytes k)) ∧ w = w' := by
  by_cases h2 : k = 2
  · subst h2; go_enter Try.func83, Try.ntmps83; go_wp2; go_ret; exact ⟨rfl, rfl⟩
  by_cases h3 : k = 3
  · subst h3; go_enter Try.func83, Try.ntmps83; go_wp2; go_ret; exact ⟨rfl, rfl⟩
  have e : kBytes k = false := decide_eq_false (by omega)
  have g2 : (k == 2) = false := beq_eq_false_iff_ne.2 h2
  have g3 : (k == 3) = false := beq_eq_false_iff_ne.2 h3
  rw [e]
  clear e h2 h3
  go_enter Try.func83, Try.ntmps83; go_wp2; go_ret; exact ⟨rfl, rfl⟩
def kWhole (k : Int) : Bool := decide (k = 4 ∨ k = 6)
theorem rwhole8_any (k : Int) (w : World) : Calls Try.prog 89 #[.int .u8 k] w fun e w' => e = .returned (.bool (kWhole k)) ∧ w = w' := by
  by_cases h2 : k = 4
  · subst h2; go_enter Try.func89, Try.ntmps89; go_wp2; go_ret; exact ⟨rfl, rfl⟩
  by_cases h3 : k = 6
  · subst h3; go_enter Try.func89, Try.ntmps89; go_wp2; go_ret; exact ⟨rfl, rfl⟩
  have e : kWhole k = false := decide_eq_false (by omega)
  have g2 : (k == 4) = false := beq_eq_false_iff_ne.2 h2
  have g3 : (k == 6) = false := beq_eq_false_iff_ne.2 h3
  rw [e]
  clear e h2 h3
  go_enter Try.func89, Try.ntmps89; go_wp2; go_ret; exact ⟨rfl, rfl⟩

instance (nb k a y : Int) : Decidable (Placed nb k a y) := by unfold Placed; infer_instance

theorem kMost_8 {k : Int} (h : k = 1 ∨ k = 2 ∨ k = 3 ∨ k = 5) : kMost k = 8 := if_pos h
theorem kMost_0 {k : Int} (h : ¬ (k = 1 ∨ k = 2 ∨ k = 3 ∨ k = 5)) : kMost k = 0 := if_neg h

set_option maxRecDepth 100000 in
theorem placed_out (x : Cfg) (k a y : Int) (A : Option Addr) (n q : Nat) (hk : k < 1 ∨ (1 ≤ k ∧ 6 < k)) (w : World) :
    Calls Try.prog 82 #[x.val, .agg #[.int .u8 k, .int .i64 a, .int .i64 y, .slice A n q]] w fun e w' => e = .returned (.bool false) ∧ Below w.heap.size w w' := by
  obtain ⟨id, m, c, r, l, h⟩ := x
  unfold Cfg.val at *
  dsimp only at *
  rcases hk with hk | ⟨hk0, hk⟩
  all_goals
    go_enter Try.func82, Try.ntmps82
    go_wp2
    go_ret
    exact ⟨rfl, Ext.alloc (Ext.alloc (Below.refl _ _) _) _⟩

set_option maxRecDepth 100000 in
theorem placed_whole (x : Cfg) (k a y : Int) (A : Option Addr) (n q : Nat) (hk : k = 4 ∨ k = 6) (w : World) :
    Calls Try.prog 82 #[x.val, .agg #[.int .u8 k, .int .i64 a, .int .i64 y, .slice A n q]] w fun e w' => e = .returned (.bool (a == 0 && y == 0)) ∧ Below w.heap.size w w' := by
  obtain ⟨id, m, c, r, l, h⟩ := x
  have hw := rwhole8_any k
  rw [show kWhole k = true from decide_eq_true hk] at hw
  have HW := Lib.hid hw
  clear hw
  unfold Cfg.val at *
  dsimp only at *
  have hk1 : 1 ≤ k := by omega
  have hk2 : k ≤ 6 := by omega
  clear hk
  cases ha : (a == 0)
  all_goals
    go_enter Try.func82, Try.ntmps82
    go_wp2_with fail
    refine (HW.out _).mono ?_
    rintro e w1 ⟨rfl, rfl⟩
    go_wp2
    go_ret
    exact ⟨rfl, Ext.alloc (Ext.alloc (Below.refl _ _) _) _⟩

set_option maxRecDepth 100000 in
theorem placed_not (x : Cfg) (k a y : Int) (A : Option Addr) (n q : Nat) (hk : (1 ≤ k ∧ k ≤ 6) ∧ ¬ (k = 4 ∨ k = 6)) (hp : y < 1 ∨ (1 ≤ y ∧ 8 < y) ∨ (1 ≤ y ∧ y ≤ 8 ∧ a < 0)) (w : World) :
    Calls Try.prog 82 #[x.val, .agg #[.int .u8 k, .int .i64 a, .int .i64 y, .slice A n q]] w fun e w' => e = .returned (.bool false) ∧ Below w.heap.size w w' := by
  obtain ⟨id, m, c, r, l, h⟩ := x
  have hw := rwhole8_any k
  rw [show kWhole k = false from decide_eq_false hk.2] at hw
  have HW := Lib.hid hw
  clear hw
  unfold Cfg.val at *
  dsimp only at *
  obtain ⟨⟨hk1, hk2⟩, _⟩ := hk
  rcases hp with hp | ⟨hp1, hp⟩ | ⟨hp1, hp2, hp⟩
  · have d1 : decide (1 ≤ y) = false := decide_eq_false (by omega)
    go_enter Try.func82, Try.ntmps82
    go_wp2_with fail
    refine (HW.out _).mono ?_
    rintro e w1 ⟨rfl, rfl⟩
    go_wp2_with fail
    go_quiet (fail)
    go_wp2
    go_ret
    exact ⟨rfl, below_drewN' (Ext.alloc (Ext.alloc (Below.refl _ _) _) _) _⟩
  · have d1 : decide (1 ≤ y) = true := decide_eq_true (by omega)
    have d2 : decide (y ≤ 8) = false := decide_eq_false (by omega)
    go_enter Try.func82, Try.ntmps82
    go_wp2_with fail
    refine (HW.out _).mono ?_
    rintro e w1 ⟨rfl, rfl⟩
    go_wp2_with fail
    go_quiet (fail)
    go_wp2
    go_ret
    exact ⟨rfl, below_drewN' (Ext.alloc (Ext.alloc (Below.refl _ _) _) _) _⟩
  · have d1 : decide (1 ≤ y) = true := decide_eq_true (by omega)
    have d2 : decide (y ≤ 8) = true := decide_eq_true (by omega)
    have d3 : decide (0 ≤ a) = false := decide_eq_false (by omega)
    go_enter Try.func82, Try.ntmps82
    go_wp2_with fail
    refine (HW.out _).mono ?_
    rintro e w1 ⟨rfl, rfl⟩
    go_wp2_with fail
    go_quiet (fail)
    go_wp2
    go_ret
    exact ⟨rfl, below_drewN' (Ext.alloc (Ext.alloc (Below.refl _ _) _) _) _⟩

set_option maxRecDepth 100000 in
theorem placed_in (x : Cfg) (hx : x.Ok) (k a y : Int) (A : Option Addr) (n q : Nat) (hk : (1 ≤ k ∧ k ≤ 6) ∧ ¬ (k = 4 ∨ k = 6)) (hp : 1 ≤ y ∧ y ≤ 8 ∧ 0 ≤ a) (v : Bool) (hv : decide (a ≤ x.c * x.r * (x.m - 1) - y) = v) (w : World) :
    Calls Try.prog 82 #[x.val, .agg #[.int .u8 k, .int .i64 a, .int .i64 y, .slice A n q]] w fun e w' => e = .returned (.bool v) ∧ Below w.heap.size w w' := by
  have HB := Lib.hid (rblocks_ok x hx)
  have hcr := Cfg.crm hx
  obtain ⟨id, m, c, r, l, h⟩ := x
  have hw := rwhole8_any k
  rw [show kWhole k = false from decide_eq_false hk.2] at hw
  have HW := Lib.hid hw
  clear hw hx
  unfold Cfg.val at *
  dsimp only at *
  obtain ⟨⟨hk1, hk2⟩, _⟩ := hk
  obtain ⟨hp1, hp2, hp3⟩ := hp
  generalize c * r * (m - 1) = nb at *
  have d1 : decide (1 ≤ y) = true := decide_eq_true (by omega)
  have d2 : decide (y ≤ 8) = true := decide_eq_true (by omega)
  have d3 : decide (0 ≤ a) = true := decide_eq_true (by omega)
  have q1 : IntKind.i64.wrap (nb - y) = nb - y := i64_fit (by omega)
  have Q1 := Lib.hid q1
  have D1 := Lib.hid d1
  have D2 := Lib.hid d2
  have D3 := Lib.hid d3
  have HV := Lib.hid hv
  clear q1 d1 d2 d3 hv hcr
  go_enter Try.func82, Try.ntmps82
  go_wp2_with fail
  have A0 := BoxOf.new' (w.alloc (.cells #[.int .u32 (id : Int), .int .i64 m, .int .i64 c, .int .i64 r, .int .i64 l, .int .i64 h] 24)) (w.heap.size + 1) #[.int .u8 k, .int .i64 a, .int .i64 y, .slice A n q] 58 (by simp)
  have C0 := BoxOf.alloc (BoxOf.new w #[.int .u32 (id : Int), .int .i64 m, .int .i64 c, .int .i64 r, .int .i64 l, .int .i64 h] 24) (.cells #[.int .u8 k, .int .i64 a, .int .i64 y, .slice A n q] 58)
  have t0 := Ext.alloc (Ext.alloc (Below.refl w.heap.size w) (.cells #[.int .u32 (id : Int), .int .i64 m, .int .i64 c, .int .i64 r, .int .i64 l, .int .i64 h] 24)) (.cells #[.int .u8 k, .int .i64 a, .int .i64 y, .slice A n q] 58)
  refine (HW.out _).mono ?_
  rintro e w1 ⟨rfl, rfl⟩
  go_wp2_with fail
  have x0 := A0.cell
  have y0 := C0.cell
  generalize (w.alloc (.cells #[.int .u32 (id : Int), .int .i64 m, .int .i64 c, .int .i64 r, .int .i64 l, .int .i64 h] 24)).alloc (.cells #[.int .u8 k, .int .i64 a, .int .i64 y, .slice A n q] 58) = w0 at A0 C0 t0 x0 y0 ⊢
  have q1 := Q1.out
  have d1 := D1.out
  have d2 := D2.out
  have d3 := D3.out
  have hv := HV.out
  go_region_held3 (fun w' => Below w.heap.size w w' ∧ BoxOf w' (w.heap.size + 1) #[.int .u8 k, .int .i64 a, .int .i64 y, .slice A n q] 58 ∧ BoxOf w' w.heap.size #[.int .u32 (id : Int), .int .i64 m, .int .i64 c, .int .i64 r, .int .i64 l, .int .i64 h] 24 ∧ (∀ o, w'.cell? ⟨w.heap.size, o, none⟩ = #[.int .u32 (id : Int), .int .i64 m, .int .i64 c, .int .i64 r, .int .i64 l, .int .i64 h].toList[o]?) ∧ ∀ o, w'.cell? ⟨w.heap.size + 1, o, none⟩ = #[.int .u8 k, .int .i64 a, .int .i64 y, .slice A n q].toList[o]?)
    (first | exact ⟨Ext.drew t0, A0.drew, C0.drew, y0, x0⟩ | exact ⟨Ext.trans (And.left (by assumption)) k3, BoxOf.next (And.left (And.right (by assumption))) k3, BoxOf.next (And.left (And.right (And.right (by assumption)))) k3, (BoxOf.next (And.left (And.right (And.right (by assumption)))) k3).cell, (BoxOf.next (And.left (And.right (by assumption))) k3).cell⟩ | assumption)
    ((go_at_call 63; refine (HB.out _).mono ?_; rintro e w3 ⟨rfl, k3⟩))
  rename_i hH
  obtain ⟨bH, _⟩ := hH
  clear q1 d1 d2 d3 hv x0 y0
  go_wp2
  go_ret
  exact ⟨rfl, bH⟩
end Go.Proofs.Ytclbihcggjjgaaa
