/- The statements of layer 6 (shape): their walks. -/
import Derived.Test.YtfelnhmefnhpeaaShapeRef
namespace Go.Proofs.Ytfelnhmefnhpeaa
open Go.RowKit

def smallC : Cfg := ⟨0, 3, 2, 3, 12, 2⟩
theorem smallC_ok : smallC.Ok := by decide
def smallV : Array Value := #[.int .u32 0, .int .i64 3, .int .i64 2, .int .i64 3, .int .i64 12, .int .i64 2]
theorem smallC_val : smallC.val = .agg smallV := rfl

theorem small_any (w : World) : Calls Try.prog 8 #[] w fun e w' => e = .returned (.agg #[.int .u32 0, .int .i64 3, .int .i64 2, .int .i64 3, .int .i64 12, .int .i64 2]) ∧ Below w.heap.size w w' := by
  go_enter Try.func8, Try.ntmps8
  go_wp2
  exact bodyPost_ret (v := .agg smallV) (results_cell_row rfl _ _ w.heap.size 24 smallV (0, 0) _ rfl (heap_alloc_new _ _) Try.underlying24 rfl (by kernel_rfl)) rfl ⟨rfl, Ext.alloc (Below.refl _ _) _⟩

theorem salive_any (w : World) : Calls Try.prog 9 #[] w fun e w' => e = .returned (.bool true) ∧ Below w.heap.size w w' := by
  have k1 := Lib.hid (stripes_ok smallC smallC_ok)
  have k2 := Lib.hid (blocks_ok smallC smallC_ok)
  have k3 := Lib.hid (need_ok smallC smallC_ok)
  have k4 := Lib.hid (member_ok smallC smallC_ok)
  have k5 := Lib.hid (journal_ok smallC smallC_ok)
  go_enter Try.func9, Try.ntmps9
  go_wp2_with fail
  refine (small_any _).mono ?_
  rintro e w1 ⟨rfl, b1⟩
  go_wp2_with fail
  refine (k1.out _).mono ?_
  rintro e w2 ⟨rfl, b2⟩
  go_wp2_with fail
  refine (small_any _).mono ?_
  rintro e w3 ⟨rfl, b3⟩
  go_wp2_with fail
  refine (k2.out _).mono ?_
  rintro e w4 ⟨rfl, b4⟩
  go_wp2_with fail
  refine (small_any _).mono ?_
  rintro e w5 ⟨rfl, b5⟩
  go_wp2_with fail
  refine (k3.out _).mono ?_
  rintro e w6 ⟨rfl, b6⟩
  go_wp2_with fail
  refine (small_any _).mono ?_
  rintro e w7 ⟨rfl, b7⟩
  go_wp2_with fail
  refine (k4.out _).mono ?_
  rintro e w8 ⟨rfl, b8⟩
  go_wp2_with fail
  refine (small_any _).mono ?_
  rintro e w9 ⟨rfl, b9⟩
  go_wp2_with fail
  refine (k5.out _).mono ?_
  rintro e w10 ⟨rfl, b10⟩
  go_wp2
  go_ret
  refine ⟨rfl, ?_⟩
  exact Ext.trans (Ext.trans (Ext.trans (Ext.trans (Ext.trans (Ext.trans (Ext.trans (Ext.trans (Ext.trans b1 b2) b3) b4) b5) b6) b7) b8) b9) b10

/-- the cells of a config -/
def Cfg.cells (x : Cfg) : Array Value := #[.int .u32 (x.id : Int), .int .i64 x.m, .int .i64 x.c, .int .i64 x.r, .int .i64 x.l, .int .i64 x.h]

theorem cfg_open {w : World} {cs : List Value} {y : (Ty.st (.prod .u32 (.prod .int (.prod .int (.prod .int (.prod .int (.prod .int .unit))))))).T} (h : Reads w (.st (.prod .u32 (.prod .int (.prod .int (.prod .int (.prod .int (.prod .int .unit))))))) y cs) :
    ∃ x : Cfg, Value.agg cs.toArray = x.val ∧ x.id < 2 ^ 32 ∧ IsInt x.m ∧ IsInt x.c ∧ IsInt x.r ∧ IsInt x.l ∧ IsInt x.h := by
  obtain ⟨id, m, c, r, l, h', u⟩ := y
  obtain ⟨c0, d0, rfl, r0, h⟩ := reads_prod.1 (reads_st.1 h)
  obtain ⟨c1, d1, rfl, r1, h⟩ := reads_prod.1 h
  obtain ⟨c2, d2, rfl, r2, h⟩ := reads_prod.1 h
  obtain ⟨c3, d3, rfl, r3, h⟩ := reads_prod.1 h
  obtain ⟨c4, d4, rfl, r4, h⟩ := reads_prod.1 h
  obtain ⟨c5, d5, rfl, r5, h⟩ := reads_prod.1 h
  obtain rfl := reads_unit.1 h
  obtain ⟨rfl, i0⟩ := reads_u32.1 r0
  obtain ⟨rfl, i1⟩ := reads_int.1 r1
  obtain ⟨rfl, i2⟩ := reads_int.1 r2
  obtain ⟨rfl, i3⟩ := reads_int.1 r3
  obtain ⟨rfl, i4⟩ := reads_int.1 r4
  obtain ⟨rfl, i5⟩ := reads_int.1 r5
  exact ⟨⟨id, m, c, r, l, h'⟩, rfl, i0, i1, i2, i3, i4, i5⟩

theorem shapeNames_walk (w : World) : Calls Try.prog 3 #[] w fun e w' => e = .returned (.bool true) ∧ Below w.heap.size w w' := by
  have g1 := Lib.hid (check_any ⟨0, 3, 2, 3, 11, 2⟩)
  have g2 := Lib.hid (check_any ⟨0, 17, 2, 3, 255, 2⟩)
  have g3 := Lib.hid (check_any ⟨0, 0, 0, 0, 0, 0⟩)
  have e1 : (Cfg.mk 0 3 2 3 11 2).code = 8 := Cfg.code_bad (by decide)
  have e2 : (Cfg.mk 0 17 2 3 255 2).code = 8 := Cfg.code_bad (by decide)
  have e3 : (Cfg.mk 0 0 0 0 0 0).code = 8 := Cfg.code_bad (by decide)
  rw [e1] at g1
  rw [e2] at g2
  rw [e3] at g3
  clear e1 e2 e3
  go_enter Try.func3, Try.ntmps3
  go_wp2_with fail
  refine (small_any _).mono ?_
  rintro e w1 ⟨rfl, b1⟩
  go_wp2_with fail
  refine (small_any _).mono ?_
  rintro e w2 ⟨rfl, b2⟩
  have x2 := box_next (box_new w1 _ _) (lt_new w1 _) b2
  have l2 := lt_next (lt_new w1 _) b2
  go_wp2_with fail
  refine (salive_any _).mono ?_
  rintro e w3 ⟨rfl, b3⟩
  have y3 := box_next (box_new w2 _ _) (lt_new w2 _) b3
  have m3 := lt_next (lt_new w2 _) b3
  have x3 : ∀ o, w3.cell? ⟨w1.heap.size, o, none⟩ = _ := box_next (fun o => (World.cell?_alloc_lt w2 _ ⟨w1.heap.size, o, none⟩ l2).trans (x2 o)) (by simp; omega) b3
  clear x2
  go_wp2_with fail
  refine (g1.out _).mono ?_
  rintro e w4 ⟨rfl, b4⟩
  have y4 := box_next y3 m3 b4
  clear x3 y3
  go_wp2_with fail
  refine (g2.out _).mono ?_
  rintro e w5 ⟨rfl, b5⟩
  clear y4
  go_wp2_with fail
  refine (g3.out _).mono ?_
  rintro e w6 ⟨rfl, b6⟩
  go_wp2
  go_ret
  refine ⟨rfl, ?_⟩
  exact Ext.trans (Ext.trans (Ext.trans (Ext.trans (Ext.alloc (Ext.trans (Ext.alloc b1 _) b2) _) b3) b4) b5) b6

set_option maxRecDepth 100000 in
theorem shapeTells_ok (x : Cfg) (hx : x.Ok) (w : World) : Calls Try.prog 4 #[x.val] w fun e w' => e = .returned (.bool true) ∧ Below w.heap.size w w' := by
  have k1 := Lib.hid (stripes_ok x hx)
  have k2 := Lib.hid (blocks_ok x hx)
  have k3 := Lib.hid (need_ok x hx)
  have k4 := Lib.hid (member_ok x hx)
  have k5 := Lib.hid (journal_ok x hx)
  have k6 := Lib.hid (rcheck_ok x hx)
  have k7 := check_any x
  rw [Cfg.code_ok hx] at k7
  have k8 := Lib.hid k7
  clear k7
  have q1 := Lib.hid (rstripes_ok x hx)
  have q2 := Lib.hid (rblocks_ok x hx)
  have q3 := Lib.hid (rneed_any x ⟨hx.1.1, hx.1.2.1⟩)
  have q4 := Lib.hid (rmember_ok x hx)
  have q5 := Lib.hid (rjournal_ok x hx)
  obtain ⟨id, m, c, r, l, h⟩ := x
  clear hx
  unfold Cfg.val at *
  dsimp only at *
  go_enter Try.func4, Try.ntmps4
  go_wp2_with fail
  refine (k1.out _).mono ?_
  rintro e w1 ⟨rfl, b1⟩
  have x1 := box_next (box_new w _ _) (lt_new w _) b1
  have l1 := lt_next (lt_new w _) b1
  go_wp2_with fail
  refine (k2.out _).mono ?_
  rintro e w2 ⟨rfl, b2⟩
  have x2 := box_next x1 l1 b2
  have l2 := lt_next l1 b2
  clear x1
  go_wp2_with fail
  refine (k3.out _).mono ?_
  rintro e w3 ⟨rfl, b3⟩
  have x3 := box_next x2 l2 b3
  have l3 := lt_next l2 b3
  clear x2
  go_wp2_with fail
  refine (k4.out _).mono ?_
  rintro e w4 ⟨rfl, b4⟩
  have x4 := box_next x3 l3 b4
  have l4 := lt_next l3 b4
  clear x3
  go_wp2_with fail
  refine (k5.out _).mono ?_
  rintro e w5 ⟨rfl, b5⟩
  have x5 := box_next x4 l4 b5
  have l5 := lt_next l4 b5
  clear x4
  go_wp2_with fail
  refine (k6.out _).mono ?_
  rintro e w6 ⟨rfl, b6⟩
  have x6 := box_next x5 l5 b6
  have l6 := lt_next l5 b6
  clear x5
  go_wp2_with fail
  refine (k8.out _).mono ?_
  rintro e w7 ⟨rfl, b7⟩
  have x7 := box_next x6 l6 b7
  have l7 := lt_next l6 b7
  clear x6
  go_wp2_with fail
  refine (q1.out _).mono ?_
  rintro e w8 ⟨rfl, b8⟩
  have x8 := box_next x7 l7 b8
  have l8 := lt_next l7 b8
  clear x7
  go_wp2_with fail
  refine (q2.out _).mono ?_
  rintro e w9 ⟨rfl, b9⟩
  have x9 := box_next x8 l8 b9
  have l9 := lt_next l8 b9
  clear x8
  go_wp2_with fail
  refine (q3.out _).mono ?_
  rintro e w10 ⟨rfl, b10⟩
  have x10 := box_next x9 l9 b10
  have l10 := lt_next l9 b10
  clear x9
  go_wp2_with fail
  refine (q4.out _).mono ?_
  rintro e w11 ⟨rfl, b11⟩
  have x11 := box_next x10 l10 b11
  have l11 := lt_next l10 b11
  clear x10
  go_wp2_with fail
  refine (q5.out _).mono ?_
  rintro e w12 ⟨rfl, b12⟩
  have x12 := box_next x11 l11 b12
  have l12 := lt_next l11 b12
  clear x11
  go_wp2
  go_ret
  exact ⟨rfl, (Ext.trans (Ext.trans (Ext.trans (Ext.trans (Ext.trans (Ext.trans (Ext.trans (Ext.trans (Ext.trans (Ext.trans (Ext.trans (Ext.trans (Ext.alloc (Below.refl _ _) _) b1) b2) b3) b4) b5) b6) b7) b8) b9) b10) b11) b12)⟩

set_option maxRecDepth 100000 in
theorem shapeTells_bad (x : Cfg) (hx : ¬ x.Ok) (w : World) : Calls Try.prog 4 #[x.val] w fun e w' => e = .returned (.bool true) ∧ Below w.heap.size w w' := by
  have k1 := Lib.hid (stripes_bad x hx)
  have k2 := Lib.hid (blocks_bad x hx)
  have k3 := Lib.hid (need_bad x hx)
  have k4 := Lib.hid (member_bad x hx)
  have k5 := Lib.hid (journal_bad x hx)
  have k6 := Lib.hid (rcheck_bad x hx)
  have k7 := check_any x
  rw [Cfg.code_bad hx] at k7
  have k8 := Lib.hid k7
  clear k7
  obtain ⟨id, m, c, r, l, h⟩ := x
  clear hx
  unfold Cfg.val at *
  dsimp only at *
  go_enter Try.func4, Try.ntmps4
  go_wp2_with fail
  refine (k1.out _).mono ?_
  rintro e w1 ⟨rfl, b1⟩
  have x1 := box_next (box_new w _ _) (lt_new w _) b1
  have l1 := lt_next (lt_new w _) b1
  go_wp2_with fail
  refine (k2.out _).mono ?_
  rintro e w2 ⟨rfl, b2⟩
  have x2 := box_next x1 l1 b2
  have l2 := lt_next l1 b2
  clear x1
  go_wp2_with fail
  refine (k3.out _).mono ?_
  rintro e w3 ⟨rfl, b3⟩
  have x3 := box_next x2 l2 b3
  have l3 := lt_next l2 b3
  clear x2
  go_wp2_with fail
  refine (k4.out _).mono ?_
  rintro e w4 ⟨rfl, b4⟩
  have x4 := box_next x3 l3 b4
  have l4 := lt_next l3 b4
  clear x3
  go_wp2_with fail
  refine (k5.out _).mono ?_
  rintro e w5 ⟨rfl, b5⟩
  have x5 := box_next x4 l4 b5
  have l5 := lt_next l4 b5
  clear x4
  go_wp2_with fail
  refine (k6.out _).mono ?_
  rintro e w6 ⟨rfl, b6⟩
  have x6 := box_next x5 l5 b6
  have l6 := lt_next l5 b6
  clear x5
  go_wp2_with fail
  refine (k8.out _).mono ?_
  rintro e w7 ⟨rfl, b7⟩
  have x7 := box_next x6 l6 b7
  have l7 := lt_next l6 b7
  clear x6
  go_wp2
  go_ret
  exact ⟨rfl, (Ext.trans (Ext.trans (Ext.trans (Ext.trans (Ext.trans (Ext.trans (Ext.trans (Ext.alloc (Below.refl _ _) _) b1) b2) b3) b4) b5) b6) b7)⟩

set_option maxRecDepth 100000 in
theorem shapeFits_ok (x : Cfg) (hx : x.Ok) (w : World) : Calls Try.prog 5 #[x.val] w fun e w' => e = .returned (.bool true) ∧ Below w.heap.size w w' := by
  have k1 := Lib.hid (stripes_ok x hx)
  have k2 := Lib.hid (blocks_ok x hx)
  have k3 := Lib.hid (need_ok x hx)
  have k4 := Lib.hid (member_ok x hx)
  have k5 := Lib.hid (journal_ok x hx)
  have k7 := check_any x
  rw [Cfg.code_ok hx] at k7
  have k8 := Lib.hid k7
  clear k7
  obtain ⟨a1, a2, a3, a4, a5, a6, a7, a8, a9, a10⟩ := Cfg.bounds hx
  obtain ⟨a11, a12⟩ := Cfg.cr hx
  obtain ⟨a13, a14⟩ := Cfg.crm hx
  have a15 : 0 ≤ (x.m + 1) * (x.h + 1) := Int.mul_nonneg (by omega) (by omega)
  obtain ⟨id, m, c, r, l, h⟩ := x
  clear hx
  unfold Cfg.val at *
  dsimp only at *
  go_enter Try.func5, Try.ntmps5
  go_wp2_with fail
  refine (salive_any _).mono ?_
  rintro e w1 ⟨rfl, b1⟩
  have x1 := box_next (box_new w _ _) (lt_new w _) b1
  have l1 := lt_next (lt_new w _) b1
  go_wp2_with fail
  refine (k8.out _).mono ?_
  rintro e w2 ⟨rfl, b2⟩
  have x2 := box_next x1 l1 b2
  have l2 := lt_next l1 b2
  clear x1
  go_wp2_with fail
  refine (k1.out _).mono ?_
  rintro e w3 ⟨rfl, b3⟩
  have x3 := box_next x2 l2 b3
  have l3 := lt_next l2 b3
  clear x2
  go_wp2_with fail
  refine (k2.out _).mono ?_
  rintro e w4 ⟨rfl, b4⟩
  have x4 := box_next x3 l3 b4
  have l4 := lt_next l3 b4
  clear x3
  go_wp2_with fail
  refine (k3.out _).mono ?_
  rintro e w5 ⟨rfl, b5⟩
  have x5 := box_next x4 l4 b5
  have l5 := lt_next l4 b5
  clear x4
  go_wp2_with fail
  refine (k4.out _).mono ?_
  rintro e w6 ⟨rfl, b6⟩
  have x6 := box_next x5 l5 b6
  have l6 := lt_next l5 b6
  clear x5
  go_wp2_with fail
  refine (k5.out _).mono ?_
  rintro e w7 ⟨rfl, b7⟩
  have x7 := box_next x6 l6 b7
  have l7 := lt_next l6 b7
  clear x6
  go_wp2
  go_ret
  exact ⟨rfl, (Ext.trans (Ext.trans (Ext.trans (Ext.trans (Ext.trans (Ext.trans (Ext.trans (Ext.alloc (Below.refl _ _) _) b1) b2) b3) b4) b5) b6) b7)⟩

set_option maxRecDepth 100000 in
theorem shapeFits_bad (x : Cfg) (hx : ¬ x.Ok) (w : World) : Calls Try.prog 5 #[x.val] w fun e w' => e = .returned (.bool true) ∧ Below w.heap.size w w' := by
  have k7 := check_any x
  rw [Cfg.code_bad hx] at k7
  have k8 := Lib.hid k7
  clear k7
  obtain ⟨id, m, c, r, l, h⟩ := x
  clear hx
  unfold Cfg.val at *
  dsimp only at *
  go_enter Try.func5, Try.ntmps5
  go_wp2_with fail
  refine (salive_any _).mono ?_
  rintro e w1 ⟨rfl, b1⟩
  have x1 := box_next (box_new w _ _) (lt_new w _) b1
  have l1 := lt_next (lt_new w _) b1
  go_wp2_with fail
  refine (k8.out _).mono ?_
  rintro e w2 ⟨rfl, b2⟩
  have x2 := box_next x1 l1 b2
  have l2 := lt_next l1 b2
  clear x1
  go_wp2
  go_ret
  exact ⟨rfl, (Ext.trans (Ext.trans (Ext.alloc (Below.refl _ _) _) b1) b2)⟩

end Go.Proofs.Ytfelnhmefnhpeaa
