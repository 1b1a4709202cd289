/- Layer 9 (label): what may be. -/
import Derived.Test.YtgmlhfencidahaaSeal
import Derived.Test.YtgmlhfencidahaaBox2
import Derived.Test.YtgmlhfencidahaaShape
import Derived.Test.YtgmlhfencidahaaPoly
namespace Go.Proofs.Ytgmlhfencidahaa
open Go.RowKit
set_option linter.unusedSimpArgs false
set_option linter.unusedVariables false

/-- a label -/
structure Lab where
  id : Nat
  ev : Nat
  m : Int
  c : Int
  r : Int
  l : Int
  me : Int
  lost : Int
  dn : Int
  op : Bool
def Lab.cells (x : Lab) : Array Value := #[.int .u32 (x.id : Int), .int .u32 (x.ev : Int), .int .i64 x.m, .int .i64 x.c, .int .i64 x.r, .int .i64 x.l, .int .i64 x.me, .int .i64 x.lost, .int .i64 x.dn, .bool x.op]
def Lab.cfg (x : Lab) : Cfg := ⟨x.id, x.m, x.c, x.r, x.l, 2⟩
def Lab.Rest (x : Lab) : Prop := x.ev ≤ 2147483648 ∧ 0 ≤ x.me ∧ x.me < x.m ∧ 0 ≤ x.dn ∧ x.dn ≤ x.c * x.r ∧ -1 ≤ x.lost ∧ x.lost < x.m ∧ (x.lost = -1 → x.dn = 0)
def Lab.Ok (x : Lab) : Prop := x.cfg.Ok ∧ x.Rest
instance (x : Lab) : Decidable x.Rest := by unfold Lab.Rest; infer_instance
instance (x : Lab) : Decidable x.Ok := by unfold Lab.Ok; infer_instance
def Lab.U (x : Lab) : Prop := x.id < 4294967296 ∧ x.ev < 4294967296

set_option maxRecDepth 100000 in
theorem lcheck_unfit (x : Lab) (hx : ¬ x.cfg.Ok) (w : World) : Calls Try.prog 30 #[.agg x.cells] w fun e w' => e = .returned (.int .i64 8) ∧ Below w.heap.size w w' := by
  have HC := Lib.hid (stripes_bad x.cfg hx)
  clear hx
  obtain ⟨id, ev, m, c, r, l, me, lost, dn, op⟩ := x
  unfold Lab.cells Lab.cfg Cfg.val at *
  dsimp only at *
  go_enter Try.func30, Try.ntmps30
  go_wp2_with fail
  have t0 := Ext.alloc (Ext.alloc (Below.refl w.heap.size w) (.cells #[.int .u32 (id : Int), .int .u32 (ev : Int), .int .i64 m, .int .i64 c, .int .i64 r, .int .i64 l, .int .i64 me, .int .i64 lost, .int .i64 dn, .bool op] 44)) (.cells #[.int .u32 (id : Int), .int .i64 m, .int .i64 c, .int .i64 r, .int .i64 l, .int .i64 2] 79)
  refine (HC.out _).mono ?_
  rintro e w1 ⟨rfl, b1⟩
  have t1 := Ext.trans t0 b1
  go_wp2
  go_ret
  exact ⟨rfl, t1⟩

set_option maxRecDepth 100000 in
set_option maxHeartbeats 1000000 in
theorem lcheck_ok (x : Lab) (hx : x.Ok) (w : World) : Calls Try.prog 30 #[.agg x.cells] w fun e w' => e = .returned (.int .i64 0) ∧ Below w.heap.size w w' := by
  have HC := Lib.hid (stripes_ok x.cfg hx.1)
  obtain ⟨_, h1, h2, h3, h4, h5, h6, h7, h8⟩ := hx
  obtain ⟨id, ev, m, c, r, l, me, lost, dn, op⟩ := x
  unfold Lab.cells Lab.cfg Cfg.val at *
  dsimp only at *
  generalize c * r = s at *
  by_cases hl : lost = -1
  · have hd := h8 hl
    clear h8
    have e1 : (lost == -1) = true := by rw [beq_iff_eq]; exact hl
    have e2 : decide (0 < dn) = false := decide_eq_false (by omega)
    clear hl hd
    go_enter Try.func30, Try.ntmps30
    go_wp2_with fail
    have A0 := BoxOf.alloc (BoxOf.new w #[.int .u32 (id : Int), .int .u32 (ev : Int), .int .i64 m, .int .i64 c, .int .i64 r, .int .i64 l, .int .i64 me, .int .i64 lost, .int .i64 dn, .bool op] 44) (.cells #[.int .u32 (id : Int), .int .i64 m, .int .i64 c, .int .i64 r, .int .i64 l, .int .i64 2] 79)
    have t0 := Ext.alloc (Ext.alloc (Below.refl w.heap.size w) (.cells #[.int .u32 (id : Int), .int .u32 (ev : Int), .int .i64 m, .int .i64 c, .int .i64 r, .int .i64 l, .int .i64 me, .int .i64 lost, .int .i64 dn, .bool op] 44)) (.cells #[.int .u32 (id : Int), .int .i64 m, .int .i64 c, .int .i64 r, .int .i64 l, .int .i64 2] 79)
    refine (HC.out _).mono ?_
    rintro e w1 ⟨rfl, b1⟩
    have A1 := A0.next b1
    have t1 := Ext.trans t0 b1
    have x1 := A1.cell
    clear A0 t0 b1 A1
    go_wp2
    go_ret
    exact ⟨rfl, t1⟩
  · have e1 : (lost == -1) = false := by rw [beq_eq_false_iff_ne]; exact hl
    clear h8
    go_enter Try.func30, Try.ntmps30
    go_wp2_with fail
    have A0 := BoxOf.alloc (BoxOf.new w #[.int .u32 (id : Int), .int .u32 (ev : Int), .int .i64 m, .int .i64 c, .int .i64 r, .int .i64 l, .int .i64 me, .int .i64 lost, .int .i64 dn, .bool op] 44) (.cells #[.int .u32 (id : Int), .int .i64 m, .int .i64 c, .int .i64 r, .int .i64 l, .int .i64 2] 79)
    have t0 := Ext.alloc (Ext.alloc (Below.refl w.heap.size w) (.cells #[.int .u32 (id : Int), .int .u32 (ev : Int), .int .i64 m, .int .i64 c, .int .i64 r, .int .i64 l, .int .i64 me, .int .i64 lost, .int .i64 dn, .bool op] 44)) (.cells #[.int .u32 (id : Int), .int .i64 m, .int .i64 c, .int .i64 r, .int .i64 l, .int .i64 2] 79)
    refine (HC.out _).mono ?_
    rintro e w1 ⟨rfl, b1⟩
    have A1 := A0.next b1
    have t1 := Ext.trans t0 b1
    have x1 := A1.cell
    clear A0 t0 b1 A1
    go_wp2
    go_ret
    exact ⟨rfl, t1⟩

set_option maxRecDepth 100000 in
set_option maxHeartbeats 2000000 in
theorem lcheck_rest (x : Lab) (hc : x.cfg.Ok) (hx : ¬ x.Rest) (w : World) : Calls Try.prog 30 #[.agg x.cells] w fun e w' => e = .returned (.int .i64 8) ∧ Below w.heap.size w w' := by
  have HC := Lib.hid (stripes_ok x.cfg hc)
  have hall : (2147483648 < x.ev) ∨ (x.ev ≤ 2147483648 ∧ x.me < 0) ∨ ((x.ev ≤ 2147483648 ∧ 0 ≤ x.me) ∧ x.m ≤ x.me) ∨ ((x.ev ≤ 2147483648 ∧ 0 ≤ x.me) ∧ x.me < x.m ∧ x.dn < 0) ∨
      ((x.ev ≤ 2147483648 ∧ 0 ≤ x.me) ∧ (x.me < x.m ∧ 0 ≤ x.dn) ∧ x.c * x.r < x.dn) ∨ ((x.ev ≤ 2147483648 ∧ 0 ≤ x.me) ∧ (x.me < x.m ∧ 0 ≤ x.dn) ∧ x.dn ≤ x.c * x.r ∧ x.lost < -1) ∨
      ((x.ev ≤ 2147483648 ∧ 0 ≤ x.me) ∧ (x.me < x.m ∧ 0 ≤ x.dn) ∧ (x.dn ≤ x.c * x.r ∧ -1 ≤ x.lost) ∧ x.m ≤ x.lost) ∨
      ((x.ev ≤ 2147483648 ∧ 0 ≤ x.me) ∧ (x.me < x.m ∧ 0 ≤ x.dn) ∧ (x.dn ≤ x.c * x.r ∧ -1 ≤ x.lost) ∧ x.lost < x.m ∧ (x.lost == -1) = true ∧ 0 < x.dn) := by
    unfold Lab.Rest at hx
    generalize x.c * x.r = s at *
    simp only [beq_iff_eq]
    omega
  clear hx hc
  obtain ⟨id, ev, m, c, r, l, me, lost, dn, op⟩ := x
  unfold Lab.cells Lab.cfg Cfg.val at *
  dsimp only at *
  generalize c * r = s at *
  rcases hall with h | ⟨h1, h⟩ | ⟨⟨h1, h2⟩, h⟩ | ⟨⟨h1, h2⟩, h3, h⟩ | ⟨⟨h1, h2⟩, ⟨h3, h4⟩, h⟩ | ⟨⟨h1, h2⟩, ⟨h3, h4⟩, h5, h⟩ | ⟨⟨h1, h2⟩, ⟨h3, h4⟩, ⟨h5, h6⟩, h⟩ | ⟨⟨h1, h2⟩, ⟨h3, h4⟩, ⟨h5, h6⟩, h7, h8, h⟩
  all_goals
    go_enter Try.func30, Try.ntmps30
    go_wp2_with fail
    have A0 := BoxOf.alloc (BoxOf.new w #[.int .u32 (id : Int), .int .u32 (ev : Int), .int .i64 m, .int .i64 c, .int .i64 r, .int .i64 l, .int .i64 me, .int .i64 lost, .int .i64 dn, .bool op] 44) (.cells #[.int .u32 (id : Int), .int .i64 m, .int .i64 c, .int .i64 r, .int .i64 l, .int .i64 2] 79)
    have t0 := Ext.alloc (Ext.alloc (Below.refl w.heap.size w) (.cells #[.int .u32 (id : Int), .int .u32 (ev : Int), .int .i64 m, .int .i64 c, .int .i64 r, .int .i64 l, .int .i64 me, .int .i64 lost, .int .i64 dn, .bool op] 44)) (.cells #[.int .u32 (id : Int), .int .i64 m, .int .i64 c, .int .i64 r, .int .i64 l, .int .i64 2] 79)
    refine (HC.out _).mono ?_
    rintro e w1 ⟨rfl, b1⟩
    have A1 := A0.next b1
    have t1 := Ext.trans t0 b1
    have x1 := A1.cell
    clear A0 t0 b1 A1
    go_wp2
    go_ret
    exact ⟨rfl, t1⟩
end Go.Proofs.Ytgmlhfencidahaa
