/- Layer 8 (split): the document's answers. -/
import Derived.Test.YtclbihcggjjgaaaSplit6
namespace Go.Proofs.Ytclbihcggjjgaaa
open Go.RowKit
set_option linter.unusedSimpArgs false
set_option linter.unusedVariables false

theorem rplaced_any (x : Cfg) (hx : x.Ok) (k a y : Int) (A : Option Addr) (n q : Nat) (w : World) :
    Calls Try.prog 82 #[x.val, .agg #[.int .u8 k, .int .i64 a, .int .i64 y, .slice A n q]] w fun e w' => e = .returned (.bool (decide (Placed (x.c * x.r * (x.m - 1)) k a y))) ∧ Below w.heap.size w w' := by
  have hcr := Cfg.crm hx
  by_cases hk : 1 ≤ k ∧ k ≤ 6
  · by_cases h46 : k = 4 ∨ k = 6
    · have h := placed_whole x k a y A n q h46 w
      have hm : kMost k = 0 := kMost_0 (by omega)
      have hi : kIs k = true := decide_eq_true hk
      have hpl : Placed (x.c * x.r * (x.m - 1)) k a y ↔ (a = 0 ∧ y = 0) := by
        unfold Placed; rw [hm, hi]; simp
      have e : (a == 0 && y == 0) = decide (Placed (x.c * x.r * (x.m - 1)) k a y) := by
        rw [Bool.eq_iff_iff, decide_eq_true_iff, hpl]
        simp
      rw [← e]
      exact h
    · have hm : kMost k = 8 := kMost_8 (by omega)
      have hpl : Placed (x.c * x.r * (x.m - 1)) k a y ↔ (1 ≤ y ∧ y ≤ 8 ∧ 0 ≤ a ∧ a ≤ x.c * x.r * (x.m - 1) - y) := by
        unfold Placed; rw [hm]; simp
      by_cases hp : 1 ≤ y ∧ y ≤ 8 ∧ 0 ≤ a
      · have h := placed_in x hx k a y A n q ⟨hk, h46⟩ hp _ rfl w
        have e : decide (a ≤ x.c * x.r * (x.m - 1) - y) = decide (Placed (x.c * x.r * (x.m - 1)) k a y) := decide_eq_decide.2 (by rw [hpl]; omega)
        rw [← e]
        exact h
      · rw [decide_eq_false (fun h => hp (by have := hpl.1 h; omega))]
        exact placed_not x k a y A n q ⟨hk, h46⟩ (by omega) w
  · have hm : kMost k = 0 := kMost_0 (by omega)
    have hi : kIs k = false := decide_eq_false hk
    rw [decide_eq_false (by unfold Placed; rw [hm, hi]; simp)]
    exact placed_out x k a y A n q (by omega) w

set_option maxRecDepth 100000 in
theorem rcheck_no (x : Cfg) (hx : ¬ x.Ok) (k a y : Int) (A : Option Addr) (n q : Nat) (w : World) :
    Calls Try.prog 64 #[x.val, .agg #[.int .u8 k, .int .i64 a, .int .i64 y, .slice A n q]] w fun e w' => e = .returned (.int .i64 8) ∧ Below w.heap.size w w' := by
  have HM := Lib.hid (may_no x hx)
  obtain ⟨id, m, c, r, l, h⟩ := x
  unfold Cfg.val at *
  dsimp only at *
  go_enter Try.func64, Try.ntmps64
  go_wp2_with fail
  have A0 := BoxOf.new' (w.alloc (.cells #[.int .u32 (id : Int), .int .i64 m, .int .i64 c, .int .i64 r, .int .i64 l, .int .i64 h] 24)) (w.heap.size + 1) #[.int .u8 k, .int .i64 a, .int .i64 y, .slice A n q] 58 (by simp)
  have C0 := BoxOf.alloc (BoxOf.new w #[.int .u32 (id : Int), .int .i64 m, .int .i64 c, .int .i64 r, .int .i64 l, .int .i64 h] 24) (.cells #[.int .u8 k, .int .i64 a, .int .i64 y, .slice A n q] 58)
  have t0 := Ext.alloc (Ext.alloc (Below.refl w.heap.size w) (.cells #[.int .u32 (id : Int), .int .i64 m, .int .i64 c, .int .i64 r, .int .i64 l, .int .i64 h] 24)) (.cells #[.int .u8 k, .int .i64 a, .int .i64 y, .slice A n q] 58)
  refine (HM.out _).mono ?_
  rintro e w1 ⟨rfl, b1⟩
  have t1 := Ext.trans t0 b1
  go_wp2
  go_ret
  exact ⟨rfl, t1⟩

set_option maxRecDepth 100000 in
theorem rcheck_arg (x : Cfg) (hx : x.Ok) (k a y : Int) (A : Option Addr) (n q : Nat) (hp : ¬ Placed (x.c * x.r * (x.m - 1)) k a y) (w : World) :
    Calls Try.prog 64 #[x.val, .agg #[.int .u8 k, .int .i64 a, .int .i64 y, .slice A n q]] w fun e w' => e = .returned (.int .i64 2) ∧ Below w.heap.size w w' := by
  have HM := Lib.hid (may_yes x hx)
  have hpl := rplaced_any x hx k a y A n q
  rw [decide_eq_false hp] at hpl
  have HP := Lib.hid hpl
  clear hpl hp hx
  obtain ⟨id, m, c, r, l, h⟩ := x
  unfold Cfg.val at *
  dsimp only at *
  go_enter Try.func64, Try.ntmps64
  go_wp2_with fail
  have A0 := BoxOf.new' (w.alloc (.cells #[.int .u32 (id : Int), .int .i64 m, .int .i64 c, .int .i64 r, .int .i64 l, .int .i64 h] 24)) (w.heap.size + 1) #[.int .u8 k, .int .i64 a, .int .i64 y, .slice A n q] 58 (by simp)
  have C0 := BoxOf.alloc (BoxOf.new w #[.int .u32 (id : Int), .int .i64 m, .int .i64 c, .int .i64 r, .int .i64 l, .int .i64 h] 24) (.cells #[.int .u8 k, .int .i64 a, .int .i64 y, .slice A n q] 58)
  have t0 := Ext.alloc (Ext.alloc (Below.refl w.heap.size w) (.cells #[.int .u32 (id : Int), .int .i64 m, .int .i64 c, .int .i64 r, .int .i64 l, .int .i64 h] 24)) (.cells #[.int .u8 k, .int .i64 a, .int .i64 y, .slice A n q] 58)
  refine (HM.out _).mono ?_
  rintro e w1 ⟨rfl, b1⟩
  have A1 := A0.next b1
  have C1 := C0.next b1
  have t1 := Ext.trans t0 b1
  have ya1 := A1.cell
  have xc1 := C1.cell
  clear A0 C0 t0 b1
  go_wp2_with fail
  refine (HP.out _).mono ?_
  rintro e w2 ⟨rfl, b2⟩
  have t2 := Ext.trans t1 b2
  go_wp2
  go_ret
  exact ⟨rfl, t2⟩

set_option maxRecDepth 100000 in
theorem rcheck_text (x : Cfg) (hx : x.Ok) (k a y : Int) (A : Option Addr) (n q : Nat) (hp : Placed (x.c * x.r * (x.m - 1)) k a y) (hn : (n : Int) ≠ kWant k y) (w : World) :
    Calls Try.prog 64 #[x.val, .agg #[.int .u8 k, .int .i64 a, .int .i64 y, .slice A n q]] w fun e w' => e = .returned (.int .i64 3) ∧ Below w.heap.size w w' := by
  have HM := Lib.hid (may_yes x hx)
  have hpl := rplaced_any x hx k a y A n q
  rw [decide_eq_true hp] at hpl
  have HP := Lib.hid hpl
  have HBY := Lib.hid (rbytes_any k)
  have hcr := Cfg.crm hx
  have hy : 0 ≤ y ∧ y ≤ 8 := by unfold Placed at hp; omega
  obtain ⟨hy1, hy2⟩ := hy
  unfold kWant at hn
  clear hpl hp hx
  obtain ⟨id, m, c, r, l, h⟩ := x
  unfold Cfg.val at *
  dsimp only at *
  generalize kBytes k = by' at *
  clear hcr
  cases by' with
  | true =>
    have hne : ((n : Int) != y * 128) = true := by simp at hn ⊢; exact hn
    clear hn
    go_enter Try.func64, Try.ntmps64
    go_wp2_with fail
    have A0 := BoxOf.new' (w.alloc (.cells #[.int .u32 (id : Int), .int .i64 m, .int .i64 c, .int .i64 r, .int .i64 l, .int .i64 h] 24)) (w.heap.size + 1) #[.int .u8 k, .int .i64 a, .int .i64 y, .slice A n q] 58 (by simp)
    have C0 := BoxOf.alloc (BoxOf.new w #[.int .u32 (id : Int), .int .i64 m, .int .i64 c, .int .i64 r, .int .i64 l, .int .i64 h] 24) (.cells #[.int .u8 k, .int .i64 a, .int .i64 y, .slice A n q] 58)
    have t0 := Ext.alloc (Ext.alloc (Below.refl w.heap.size w) (.cells #[.int .u32 (id : Int), .int .i64 m, .int .i64 c, .int .i64 r, .int .i64 l, .int .i64 h] 24)) (.cells #[.int .u8 k, .int .i64 a, .int .i64 y, .slice A n q] 58)
    refine (HM.out _).mono ?_
    rintro e w1 ⟨rfl, b1⟩
    have A1 := A0.next b1
    have C1 := C0.next b1
    have t1 := Ext.trans t0 b1
    have ya1 := A1.cell
    have xc1 := C1.cell
    clear A0 C0 t0 b1
    go_wp2_with fail
    refine (HP.out _).mono ?_
    rintro e w2 ⟨rfl, b2⟩
    have A2 := A1.next b2
    have C2 := C1.next b2
    have t2 := Ext.trans t1 b2
    have ya2 := A2.cell
    have xc2 := C2.cell
    clear A1 C1 t1 b2
    clear xc1 ya1
    go_wp2_with fail
    refine (HBY.out _).mono ?_
    rintro e w3 ⟨rfl, rfl⟩
    skip
    go_wp2
    go_ret
    exact ⟨rfl, t2⟩
  | false =>
    have hne : ((n : Int) != 0) = true := by simp at hn ⊢; exact hn
    clear hn
    go_enter Try.func64, Try.ntmps64
    go_wp2_with fail
    have A0 := BoxOf.new' (w.alloc (.cells #[.int .u32 (id : Int), .int .i64 m, .int .i64 c, .int .i64 r, .int .i64 l, .int .i64 h] 24)) (w.heap.size + 1) #[.int .u8 k, .int .i64 a, .int .i64 y, .slice A n q] 58 (by simp)
    have C0 := BoxOf.alloc (BoxOf.new w #[.int .u32 (id : Int), .int .i64 m, .int .i64 c, .int .i64 r, .int .i64 l, .int .i64 h] 24) (.cells #[.int .u8 k, .int .i64 a, .int .i64 y, .slice A n q] 58)
    have t0 := Ext.alloc (Ext.alloc (Below.refl w.heap.size w) (.cells #[.int .u32 (id : Int), .int .i64 m, .int .i64 c, .int .i64 r, .int .i64 l, .int .i64 h] 24)) (.cells #[.int .u8 k, .int .i64 a, .int .i64 y, .slice A n q] 58)
    refine (HM.out _).mono ?_
    rintro e w1 ⟨rfl, b1⟩
    have A1 := A0.next b1
    have C1 := C0.next b1
    have t1 := Ext.trans t0 b1
    have ya1 := A1.cell
    have xc1 := C1.cell
    clear A0 C0 t0 b1
    go_wp2_with fail
    refine (HP.out _).mono ?_
    rintro e w2 ⟨rfl, b2⟩
    have A2 := A1.next b2
    have C2 := C1.next b2
    have t2 := Ext.trans t1 b2
    have ya2 := A2.cell
    have xc2 := C2.cell
    clear A1 C1 t1 b2
    clear xc1 ya1
    go_wp2_with fail
    refine (HBY.out _).mono ?_
    rintro e w3 ⟨rfl, rfl⟩
    go_wp2_with fail
    refine (HBY.out _).mono ?_
    rintro e w3 ⟨rfl, rfl⟩
    go_wp2
    go_ret
    exact ⟨rfl, t2⟩
set_option maxRecDepth 100000 in
theorem rcheck_ok (x : Cfg) (hx : x.Ok) (k a y : Int) (A : Option Addr) (n q : Nat) (hp : Placed (x.c * x.r * (x.m - 1)) k a y) (hn : (n : Int) = kWant k y) (w : World) :
    Calls Try.prog 64 #[x.val, .agg #[.int .u8 k, .int .i64 a, .int .i64 y, .slice A n q]] w fun e w' => e = .returned (.int .i64 0) ∧ Below w.heap.size w w' := by
  have HM := Lib.hid (may_yes x hx)
  have hpl := rplaced_any x hx k a y A n q
  rw [decide_eq_true hp] at hpl
  have HP := Lib.hid hpl
  have HBY := Lib.hid (rbytes_any k)
  have hcr := Cfg.crm hx
  have hy : 0 ≤ y ∧ y ≤ 8 := by unfold Placed at hp; omega
  obtain ⟨hy1, hy2⟩ := hy
  unfold kWant at hn
  clear hpl hp hx
  obtain ⟨id, m, c, r, l, h⟩ := x
  unfold Cfg.val at *
  dsimp only at *
  generalize kBytes k = by' at *
  clear hcr
  cases by' with
  | true =>
    have hne : ((n : Int) != y * 128) = false := by simp at hn ⊢; exact hn
    clear hn
    go_enter Try.func64, Try.ntmps64
    go_wp2_with fail
    have A0 := BoxOf.new' (w.alloc (.cells #[.int .u32 (id : Int), .int .i64 m, .int .i64 c, .int .i64 r, .int .i64 l, .int .i64 h] 24)) (w.heap.size + 1) #[.int .u8 k, .int .i64 a, .int .i64 y, .slice A n q] 58 (by simp)
    have C0 := BoxOf.alloc (BoxOf.new w #[.int .u32 (id : Int), .int .i64 m, .int .i64 c, .int .i64 r, .int .i64 l, .int .i64 h] 24) (.cells #[.int .u8 k, .int .i64 a, .int .i64 y, .slice A n q] 58)
    have t0 := Ext.alloc (Ext.alloc (Below.refl w.heap.size w) (.cells #[.int .u32 (id : Int), .int .i64 m, .int .i64 c, .int .i64 r, .int .i64 l, .int .i64 h] 24)) (.cells #[.int .u8 k, .int .i64 a, .int .i64 y, .slice A n q] 58)
    refine (HM.out _).mono ?_
    rintro e w1 ⟨rfl, b1⟩
    have A1 := A0.next b1
    have C1 := C0.next b1
    have t1 := Ext.trans t0 b1
    have ya1 := A1.cell
    have xc1 := C1.cell
    clear A0 C0 t0 b1
    go_wp2_with fail
    refine (HP.out _).mono ?_
    rintro e w2 ⟨rfl, b2⟩
    have A2 := A1.next b2
    have C2 := C1.next b2
    have t2 := Ext.trans t1 b2
    have ya2 := A2.cell
    have xc2 := C2.cell
    clear A1 C1 t1 b2
    clear xc1 ya1
    go_wp2_with fail
    refine (HBY.out _).mono ?_
    rintro e w3 ⟨rfl, rfl⟩
    (go_wp2_with fail; refine (HBY.out _).mono ?_; rintro e w3 ⟨rfl, rfl⟩)
    go_wp2
    go_ret
    exact ⟨rfl, t2⟩
  | false =>
    have hne : ((n : Int) != 0) = false := by simp at hn ⊢; exact hn
    clear hn
    go_enter Try.func64, Try.ntmps64
    go_wp2_with fail
    have A0 := BoxOf.new' (w.alloc (.cells #[.int .u32 (id : Int), .int .i64 m, .int .i64 c, .int .i64 r, .int .i64 l, .int .i64 h] 24)) (w.heap.size + 1) #[.int .u8 k, .int .i64 a, .int .i64 y, .slice A n q] 58 (by simp)
    have C0 := BoxOf.alloc (BoxOf.new w #[.int .u32 (id : Int), .int .i64 m, .int .i64 c, .int .i64 r, .int .i64 l, .int .i64 h] 24) (.cells #[.int .u8 k, .int .i64 a, .int .i64 y, .slice A n q] 58)
    have t0 := Ext.alloc (Ext.alloc (Below.refl w.heap.size w) (.cells #[.int .u32 (id : Int), .int .i64 m, .int .i64 c, .int .i64 r, .int .i64 l, .int .i64 h] 24)) (.cells #[.int .u8 k, .int .i64 a, .int .i64 y, .slice A n q] 58)
    refine (HM.out _).mono ?_
    rintro e w1 ⟨rfl, b1⟩
    have A1 := A0.next b1
    have C1 := C0.next b1
    have t1 := Ext.trans t0 b1
    have ya1 := A1.cell
    have xc1 := C1.cell
    clear A0 C0 t0 b1
    go_wp2_with fail
    refine (HP.out _).mono ?_
    rintro e w2 ⟨rfl, b2⟩
    have A2 := A1.next b2
    have C2 := C1.next b2
    have t2 := Ext.trans t1 b2
    have ya2 := A2.cell
    have xc2 := C2.cell
    clear A1 C1 t1 b2
    clear xc1 ya1
    go_wp2_with fail
    refine (HBY.out _).mono ?_
    rintro e w3 ⟨rfl, rfl⟩
    go_wp2_with fail
    refine (HBY.out _).mono ?_
    rintro e w3 ⟨rfl, rfl⟩
    go_wp2
    go_ret
    exact ⟨rfl, t2⟩

theorem rcheck_all (x : Cfg) (k a y : Int) (A : Option Addr) (n q : Nat) (w : World) :
    Calls Try.prog 64 #[x.val, .agg #[.int .u8 k, .int .i64 a, .int .i64 y, .slice A n q]] w fun e w' => e = .returned (.int .i64 (askCode x k a y n)) ∧ Below w.heap.size w w' := by
  unfold askCode
  split
  · rename_i hx
    split
    · rename_i hp
      split
      · rename_i hn; exact rcheck_ok x hx k a y A n q hp hn w
      · rename_i hn; exact rcheck_text x hx k a y A n q hp hn w
    · rename_i hp; exact rcheck_arg x hx k a y A n q hp w
  · rename_i hx; exact rcheck_no x hx k a y A n q w
end Go.Proofs.Ytclbihcggjjgaaa
