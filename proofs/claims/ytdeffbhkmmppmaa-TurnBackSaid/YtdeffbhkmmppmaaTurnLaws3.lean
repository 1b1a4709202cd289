/- Layer 7 (turn): each block has one slot, each slot one block. -/
import Derived.Test.YtdeffbhkmmppmaaTurnLaws2
namespace Go.Proofs.Ytdeffbhkmmppmaa
open Go.RowKit
set_option linter.unusedSimpArgs false

def BackOne (x : Cfg) (b sp sq sv e : Int) : Prop := (e = 0 ∧ (∀ W, Calls Try.prog 12 #[x.val, .int .i64 (sp), .int .i64 (sq)] W fun e' w' => e' = .returned (.tuple #[.int .i64 (b), .int .i64 (0)]) ∧ Below W.heap.size W w') ∧ (∀ W, Calls Try.prog 14 #[x.val, .int .i64 (sp), .int .i64 (sq)] W fun e' w' => e' = .returned (.tuple #[.int .i64 (sv), .int .i64 (0)]) ∧ Below W.heap.size W w')) ∨ (e == 0) = false
def BackTwo (x : Cfg) (s mm k h : Int) : Prop := (h != 0) = true ∨
  (h = 0 ∧ (∀ W, Calls Try.prog 14 #[x.val, .int .i64 (s), .int .i64 (k)] W fun e' w' => e' = .returned (.tuple #[.int .i64 (mm), .int .i64 (0)]) ∧ Below W.heap.size W w') ∧ ∃ p, (∀ W, Calls Try.prog 11 #[x.val, .int .i64 (s)] W fun e' w' => e' = .returned (.tuple #[.int .i64 (p), .int .i64 (0)]) ∧ Below W.heap.size W w') ∧
    (((k == x.m - 1) = true ∧ (p == mm) = true) ∨ ((k == x.m - 1) = false ∧ (p == mm) = false ∧ ∃ b, (∀ W, Calls Try.prog 12 #[x.val, .int .i64 (s), .int .i64 (k)] W fun e' w' => e' = .returned (.tuple #[.int .i64 (b), .int .i64 (0)]) ∧ Below W.heap.size W w') ∧ (∀ W, Calls Try.prog 9 #[x.val, .int .i64 (b)] W fun e' w' => e' = .returned (.tuple #[.agg #[.int .i64 (s), .int .i64 (k), .int .i64 (mm)], .int .i64 (0)]) ∧ Below W.heap.size W w'))))


set_option maxRecDepth 100000 in
theorem back_aa (x : Cfg) (b s mm sp sq sv e k hh : Int) (hm : -1000 ≤ x.m ∧ x.m ≤ 1000) (k1 : ∀ W, Calls Try.prog 9 #[x.val, .int .i64 (b)] W fun e' w' => e' = .returned (.tuple #[.agg #[.int .i64 (sp), .int .i64 (sq), .int .i64 (sv)], .int .i64 (e)]) ∧ Below W.heap.size W w') (k4 : ∀ W, Calls Try.prog 15 #[x.val, .int .i64 (s), .int .i64 (mm)] W fun e' w' => e' = .returned (.tuple #[.int .i64 (k), .int .i64 (hh)]) ∧ Below W.heap.size W w') (he : e = 0) (k2 : ∀ W, Calls Try.prog 12 #[x.val, .int .i64 (sp), .int .i64 (sq)] W fun e' w' => e' = .returned (.tuple #[.int .i64 (b), .int .i64 (0)]) ∧ Below W.heap.size W w') (k3 : ∀ W, Calls Try.prog 14 #[x.val, .int .i64 (sp), .int .i64 (sq)] W fun e' w' => e' = .returned (.tuple #[.int .i64 (sv), .int .i64 (0)]) ∧ Below W.heap.size W w') (hh0 : (hh != 0) = true) (w : World) :
    Calls Try.prog 7 #[x.val, .int .i64 b, .int .i64 s, .int .i64 mm] w fun e w' => e = .returned (.bool true) ∧ Below w.heap.size w w' := by
  have K1 := Lib.hid k1
  have K4 := Lib.hid k4
  clear k1 k4
  obtain ⟨hm1, hm2⟩ := hm
  subst he
  have K2 := Lib.hid k2
  have K3 := Lib.hid k3
  clear k2 k3

  obtain ⟨id, m, c, r, l, h⟩ := x
  unfold Cfg.val at *
  dsimp only at *
  go_enter Try.func7, Try.ntmps7
  go_wp2_with fail
  have A0 := BoxOf.new w #[.int .u32 (id : Int), .int .i64 m, .int .i64 c, .int .i64 r, .int .i64 l, .int .i64 h] 24
  have t0 := Ext.alloc (Below.refl w.heap.size w) (.cells #[.int .u32 (id : Int), .int .i64 m, .int .i64 c, .int .i64 r, .int .i64 l, .int .i64 h] 24)
  refine (talive_any _).mono ?_
  rintro e' w1 ⟨rfl, b1⟩
  have A1 := A0.next b1
  have t1 := Ext.trans t0 b1
  have x1 := A1.cell
  clear A0 t0 b1
  go_wp2_with fail
  refine (K1.out _).mono ?_
  rintro e' w2 ⟨rfl, b2⟩
  have A2 := (A1.next b2).alloc (.cells #[.int .i64 (sp), .int .i64 (sq), .int .i64 (sv)] 27)
  have B2 := BoxOf.new w2 #[.int .i64 (sp), .int .i64 (sq), .int .i64 (sv)] 27
  have t2 := Ext.alloc (Ext.trans t1 b2) (.cells #[.int .i64 (sp), .int .i64 (sq), .int .i64 (sv)] 27)
  have x2 := (A1.next b2).cell
  have y2 := B2.cell
  have l2 := (A1.next b2).lt
  clear A1 x1 t1 b2
  go_wp2_with fail
  refine (K2.out _).mono ?_
  rintro e' w3 ⟨rfl, b3⟩
  have A3 := A2.next b3
  have B3 := B2.next b3
  have t3 := Ext.trans t2 b3
  have x3 := A3.cell
  have y3 := B3.cell
  clear x2 y2 A2 B2 t2 b3
  go_wp2_with fail
  refine (K3.out _).mono ?_
  rintro e' w4 ⟨rfl, b4⟩
  have A4 := A3.next b4
  have B4 := B3.next b4
  have t4 := Ext.trans t3 b4
  have x4 := A4.cell
  have y4 := B4.cell
  clear x3 y3 A3 B3 t3 b4
  have B5 := B4
  clear B5
  go_wp2_with fail
  refine (K4.out _).mono ?_
  rintro e' w5 ⟨rfl, b5⟩
  have t5 := Ext.trans t4 b5
  go_wp2
  go_ret
  exact ⟨rfl, t5⟩

set_option maxRecDepth 100000 in
theorem back_ab (x : Cfg) (b s mm sp sq sv e k hh : Int) (hm : -1000 ≤ x.m ∧ x.m ≤ 1000) (k1 : ∀ W, Calls Try.prog 9 #[x.val, .int .i64 (b)] W fun e' w' => e' = .returned (.tuple #[.agg #[.int .i64 (sp), .int .i64 (sq), .int .i64 (sv)], .int .i64 (e)]) ∧ Below W.heap.size W w') (k4 : ∀ W, Calls Try.prog 15 #[x.val, .int .i64 (s), .int .i64 (mm)] W fun e' w' => e' = .returned (.tuple #[.int .i64 (k), .int .i64 (hh)]) ∧ Below W.heap.size W w') (he : e = 0) (k2 : ∀ W, Calls Try.prog 12 #[x.val, .int .i64 (sp), .int .i64 (sq)] W fun e' w' => e' = .returned (.tuple #[.int .i64 (b), .int .i64 (0)]) ∧ Below W.heap.size W w') (k3 : ∀ W, Calls Try.prog 14 #[x.val, .int .i64 (sp), .int .i64 (sq)] W fun e' w' => e' = .returned (.tuple #[.int .i64 (sv), .int .i64 (0)]) ∧ Below W.heap.size W w') (hh0 : hh = 0) (k5 : ∀ W, Calls Try.prog 14 #[x.val, .int .i64 (s), .int .i64 (k)] W fun e' w' => e' = .returned (.tuple #[.int .i64 (mm), .int .i64 (0)]) ∧ Below W.heap.size W w') (p : Int) (k6 : ∀ W, Calls Try.prog 11 #[x.val, .int .i64 (s)] W fun e' w' => e' = .returned (.tuple #[.int .i64 (p), .int .i64 (0)]) ∧ Below W.heap.size W w') (hkm : (k == x.m - 1) = true) (hpm : (p == mm) = true) (w : World) :
    Calls Try.prog 7 #[x.val, .int .i64 b, .int .i64 s, .int .i64 mm] w fun e w' => e = .returned (.bool true) ∧ Below w.heap.size w w' := by
  have K1 := Lib.hid k1
  have K4 := Lib.hid k4
  clear k1 k4
  obtain ⟨hm1, hm2⟩ := hm
  subst he
  have K2 := Lib.hid k2
  have K3 := Lib.hid k3
  clear k2 k3
  subst hh0
  have K5 := Lib.hid k5
  have K6 := Lib.hid k6
  clear k5 k6
  obtain ⟨id, m, c, r, l, h⟩ := x
  unfold Cfg.val at *
  dsimp only at *
  go_enter Try.func7, Try.ntmps7
  go_wp2_with fail
  have A0 := BoxOf.new w #[.int .u32 (id : Int), .int .i64 m, .int .i64 c, .int .i64 r, .int .i64 l, .int .i64 h] 24
  have t0 := Ext.alloc (Below.refl w.heap.size w) (.cells #[.int .u32 (id : Int), .int .i64 m, .int .i64 c, .int .i64 r, .int .i64 l, .int .i64 h] 24)
  refine (talive_any _).mono ?_
  rintro e' w1 ⟨rfl, b1⟩
  have A1 := A0.next b1
  have t1 := Ext.trans t0 b1
  have x1 := A1.cell
  clear A0 t0 b1
  go_wp2_with fail
  refine (K1.out _).mono ?_
  rintro e' w2 ⟨rfl, b2⟩
  have A2 := (A1.next b2).alloc (.cells #[.int .i64 (sp), .int .i64 (sq), .int .i64 (sv)] 27)
  have B2 := BoxOf.new w2 #[.int .i64 (sp), .int .i64 (sq), .int .i64 (sv)] 27
  have t2 := Ext.alloc (Ext.trans t1 b2) (.cells #[.int .i64 (sp), .int .i64 (sq), .int .i64 (sv)] 27)
  have x2 := (A1.next b2).cell
  have y2 := B2.cell
  have l2 := (A1.next b2).lt
  clear A1 x1 t1 b2
  go_wp2_with fail
  refine (K2.out _).mono ?_
  rintro e' w3 ⟨rfl, b3⟩
  have A3 := A2.next b3
  have B3 := B2.next b3
  have t3 := Ext.trans t2 b3
  have x3 := A3.cell
  have y3 := B3.cell
  clear x2 y2 A2 B2 t2 b3
  go_wp2_with fail
  refine (K3.out _).mono ?_
  rintro e' w4 ⟨rfl, b4⟩
  have A4 := A3.next b4
  have B4 := B3.next b4
  have t4 := Ext.trans t3 b4
  have x4 := A4.cell
  have y4 := B4.cell
  clear x3 y3 A3 B3 t3 b4
  have B5 := B4
  clear B5
  go_wp2_with fail
  refine (K4.out _).mono ?_
  rintro e' w5 ⟨rfl, b5⟩
  have A5 := A4.next b5
  have t5 := Ext.trans t4 b5
  have x5 := A5.cell
  clear x4 A4 t4 b5
  go_wp2_with fail
  refine (K5.out _).mono ?_
  rintro e' w6 ⟨rfl, b6⟩
  have A6 := A5.next b6
  have t6 := Ext.trans t5 b6
  have x6 := A6.cell
  clear x5 A5 t5 b6
  go_wp2_with fail
  refine (K6.out _).mono ?_
  rintro e' w7 ⟨rfl, b7⟩
  have A7 := A6.next b7
  have t7 := Ext.trans t6 b7
  have x7 := A7.cell
  clear x6 A6 t6 b7
  go_wp2
  go_ret
  exact ⟨rfl, t7⟩

set_option maxRecDepth 100000 in
theorem back_ac (x : Cfg) (b s mm sp sq sv e k hh : Int) (hm : -1000 ≤ x.m ∧ x.m ≤ 1000) (k1 : ∀ W, Calls Try.prog 9 #[x.val, .int .i64 (b)] W fun e' w' => e' = .returned (.tuple #[.agg #[.int .i64 (sp), .int .i64 (sq), .int .i64 (sv)], .int .i64 (e)]) ∧ Below W.heap.size W w') (k4 : ∀ W, Calls Try.prog 15 #[x.val, .int .i64 (s), .int .i64 (mm)] W fun e' w' => e' = .returned (.tuple #[.int .i64 (k), .int .i64 (hh)]) ∧ Below W.heap.size W w') (he : e = 0) (k2 : ∀ W, Calls Try.prog 12 #[x.val, .int .i64 (sp), .int .i64 (sq)] W fun e' w' => e' = .returned (.tuple #[.int .i64 (b), .int .i64 (0)]) ∧ Below W.heap.size W w') (k3 : ∀ W, Calls Try.prog 14 #[x.val, .int .i64 (sp), .int .i64 (sq)] W fun e' w' => e' = .returned (.tuple #[.int .i64 (sv), .int .i64 (0)]) ∧ Below W.heap.size W w') (hh0 : hh = 0) (k5 : ∀ W, Calls Try.prog 14 #[x.val, .int .i64 (s), .int .i64 (k)] W fun e' w' => e' = .returned (.tuple #[.int .i64 (mm), .int .i64 (0)]) ∧ Below W.heap.size W w') (p : Int) (k6 : ∀ W, Calls Try.prog 11 #[x.val, .int .i64 (s)] W fun e' w' => e' = .returned (.tuple #[.int .i64 (p), .int .i64 (0)]) ∧ Below W.heap.size W w') (hkm : (k == x.m - 1) = false) (hpm : (p == mm) = false) (b2 : Int) (k7 : ∀ W, Calls Try.prog 12 #[x.val, .int .i64 (s), .int .i64 (k)] W fun e' w' => e' = .returned (.tuple #[.int .i64 (b2), .int .i64 (0)]) ∧ Below W.heap.size W w') (k8 : ∀ W, Calls Try.prog 9 #[x.val, .int .i64 (b2)] W fun e' w' => e' = .returned (.tuple #[.agg #[.int .i64 (s), .int .i64 (k), .int .i64 (mm)], .int .i64 (0)]) ∧ Below W.heap.size W w') (w : World) :
    Calls Try.prog 7 #[x.val, .int .i64 b, .int .i64 s, .int .i64 mm] w fun e w' => e = .returned (.bool true) ∧ Below w.heap.size w w' := by
  have K1 := Lib.hid k1
  have K4 := Lib.hid k4
  clear k1 k4
  obtain ⟨hm1, hm2⟩ := hm
  subst he
  have K2 := Lib.hid k2
  have K3 := Lib.hid k3
  clear k2 k3
  subst hh0
  have K5 := Lib.hid k5
  have K6 := Lib.hid k6
  have K7 := Lib.hid k7
  have K8 := Lib.hid k8
  clear k5 k6 k7 k8
  obtain ⟨id, m, c, r, l, h⟩ := x
  unfold Cfg.val at *
  dsimp only at *
  go_enter Try.func7, Try.ntmps7
  go_wp2_with fail
  have A0 := BoxOf.new w #[.int .u32 (id : Int), .int .i64 m, .int .i64 c, .int .i64 r, .int .i64 l, .int .i64 h] 24
  have t0 := Ext.alloc (Below.refl w.heap.size w) (.cells #[.int .u32 (id : Int), .int .i64 m, .int .i64 c, .int .i64 r, .int .i64 l, .int .i64 h] 24)
  refine (talive_any _).mono ?_
  rintro e' w1 ⟨rfl, b1⟩
  have A1 := A0.next b1
  have t1 := Ext.trans t0 b1
  have x1 := A1.cell
  clear A0 t0 b1
  go_wp2_with fail
  refine (K1.out _).mono ?_
  rintro e' w2 ⟨rfl, b2⟩
  have A2 := (A1.next b2).alloc (.cells #[.int .i64 (sp), .int .i64 (sq), .int .i64 (sv)] 27)
  have B2 := BoxOf.new w2 #[.int .i64 (sp), .int .i64 (sq), .int .i64 (sv)] 27
  have t2 := Ext.alloc (Ext.trans t1 b2) (.cells #[.int .i64 (sp), .int .i64 (sq), .int .i64 (sv)] 27)
  have x2 := (A1.next b2).cell
  have y2 := B2.cell
  have l2 := (A1.next b2).lt
  clear A1 x1 t1 b2
  go_wp2_with fail
  refine (K2.out _).mono ?_
  rintro e' w3 ⟨rfl, b3⟩
  have A3 := A2.next b3
  have B3 := B2.next b3
  have t3 := Ext.trans t2 b3
  have x3 := A3.cell
  have y3 := B3.cell
  clear x2 y2 A2 B2 t2 b3
  go_wp2_with fail
  refine (K3.out _).mono ?_
  rintro e' w4 ⟨rfl, b4⟩
  have A4 := A3.next b4
  have B4 := B3.next b4
  have t4 := Ext.trans t3 b4
  have x4 := A4.cell
  have y4 := B4.cell
  clear x3 y3 A3 B3 t3 b4
  have B5 := B4
  clear B5
  go_wp2_with fail
  refine (K4.out _).mono ?_
  rintro e' w5 ⟨rfl, b5⟩
  have A5 := A4.next b5
  have t5 := Ext.trans t4 b5
  have x5 := A5.cell
  clear x4 A4 t4 b5
  go_wp2_with fail
  refine (K5.out _).mono ?_
  rintro e' w6 ⟨rfl, b6⟩
  have A6 := A5.next b6
  have t6 := Ext.trans t5 b6
  have x6 := A6.cell
  clear x5 A5 t5 b6
  go_wp2_with fail
  refine (K6.out _).mono ?_
  rintro e' w7 ⟨rfl, b7⟩
  have A7 := A6.next b7
  have t7 := Ext.trans t6 b7
  have x7 := A7.cell
  clear x6 A6 t6 b7
  go_wp2_with fail
  refine (K7.out _).mono ?_
  rintro e' w8 ⟨rfl, b8⟩
  have A8 := A7.next b8
  have t8 := Ext.trans t7 b8
  have x8 := A8.cell
  clear x7 A7 t7 b8
  go_wp2_with fail
  refine (K8.out _).mono ?_
  rintro e' w9 ⟨rfl, b9⟩
  have t9 := Ext.alloc (Ext.trans t8 b9) (.cells #[.int .i64 (s), .int .i64 (k), .int .i64 (mm)] 27)
  clear x8 A8 t8 b9
  go_wp2
  go_ret
  exact ⟨rfl, t9⟩

set_option maxRecDepth 100000 in
theorem back_ba (x : Cfg) (b s mm sp sq sv e k hh : Int) (k1 : ∀ W, Calls Try.prog 9 #[x.val, .int .i64 (b)] W fun e' w' => e' = .returned (.tuple #[.agg #[.int .i64 (sp), .int .i64 (sq), .int .i64 (sv)], .int .i64 (e)]) ∧ Below W.heap.size W w') (k4 : ∀ W, Calls Try.prog 15 #[x.val, .int .i64 (s), .int .i64 (mm)] W fun e' w' => e' = .returned (.tuple #[.int .i64 (k), .int .i64 (hh)]) ∧ Below W.heap.size W w') (he : (e == 0) = false) (hh0 : (hh != 0) = true) (w : World) :
    Calls Try.prog 7 #[x.val, .int .i64 b, .int .i64 s, .int .i64 mm] w fun e w' => e = .returned (.bool true) ∧ Below w.heap.size w w' := by
  have K1 := Lib.hid k1
  have K4 := Lib.hid k4
  clear k1 k4



  obtain ⟨id, m, c, r, l, h⟩ := x
  unfold Cfg.val at *
  dsimp only at *
  go_enter Try.func7, Try.ntmps7
  go_wp2_with fail
  have A0 := BoxOf.new w #[.int .u32 (id : Int), .int .i64 m, .int .i64 c, .int .i64 r, .int .i64 l, .int .i64 h] 24
  have t0 := Ext.alloc (Below.refl w.heap.size w) (.cells #[.int .u32 (id : Int), .int .i64 m, .int .i64 c, .int .i64 r, .int .i64 l, .int .i64 h] 24)
  refine (talive_any _).mono ?_
  rintro e' w1 ⟨rfl, b1⟩
  have A1 := A0.next b1
  have t1 := Ext.trans t0 b1
  have x1 := A1.cell
  clear A0 t0 b1
  go_wp2_with fail
  refine (K1.out _).mono ?_
  rintro e' w2 ⟨rfl, b2⟩
  have A2 := (A1.next b2).alloc (.cells #[.int .i64 (sp), .int .i64 (sq), .int .i64 (sv)] 27)
  have B2 := BoxOf.new w2 #[.int .i64 (sp), .int .i64 (sq), .int .i64 (sv)] 27
  have t2 := Ext.alloc (Ext.trans t1 b2) (.cells #[.int .i64 (sp), .int .i64 (sq), .int .i64 (sv)] 27)
  have x2 := (A1.next b2).cell
  have y2 := B2.cell
  have l2 := (A1.next b2).lt
  clear A1 x1 t1 b2
  have A4 := A2
  have t4 := t2
  have x4 := x2
  clear A2 t2 x2 B2 y2
  go_wp2_with fail
  refine (K4.out _).mono ?_
  rintro e' w5 ⟨rfl, b5⟩
  have t5 := Ext.trans t4 b5
  go_wp2
  go_ret
  exact ⟨rfl, t5⟩

set_option maxRecDepth 100000 in
theorem back_bb (x : Cfg) (b s mm sp sq sv e k hh : Int) (hm : -1000 ≤ x.m ∧ x.m ≤ 1000) (k1 : ∀ W, Calls Try.prog 9 #[x.val, .int .i64 (b)] W fun e' w' => e' = .returned (.tuple #[.agg #[.int .i64 (sp), .int .i64 (sq), .int .i64 (sv)], .int .i64 (e)]) ∧ Below W.heap.size W w') (k4 : ∀ W, Calls Try.prog 15 #[x.val, .int .i64 (s), .int .i64 (mm)] W fun e' w' => e' = .returned (.tuple #[.int .i64 (k), .int .i64 (hh)]) ∧ Below W.heap.size W w') (he : (e == 0) = false) (hh0 : hh = 0) (k5 : ∀ W, Calls Try.prog 14 #[x.val, .int .i64 (s), .int .i64 (k)] W fun e' w' => e' = .returned (.tuple #[.int .i64 (mm), .int .i64 (0)]) ∧ Below W.heap.size W w') (p : Int) (k6 : ∀ W, Calls Try.prog 11 #[x.val, .int .i64 (s)] W fun e' w' => e' = .returned (.tuple #[.int .i64 (p), .int .i64 (0)]) ∧ Below W.heap.size W w') (hkm : (k == x.m - 1) = true) (hpm : (p == mm) = true) (w : World) :
    Calls Try.prog 7 #[x.val, .int .i64 b, .int .i64 s, .int .i64 mm] w fun e w' => e = .returned (.bool true) ∧ Below w.heap.size w w' := by
  have K1 := Lib.hid k1
  have K4 := Lib.hid k4
  clear k1 k4
  obtain ⟨hm1, hm2⟩ := hm

  subst hh0
  have K5 := Lib.hid k5
  have K6 := Lib.hid k6
  clear k5 k6
  obtain ⟨id, m, c, r, l, h⟩ := x
  unfold Cfg.val at *
  dsimp only at *
  go_enter Try.func7, Try.ntmps7
  go_wp2_with fail
  have A0 := BoxOf.new w #[.int .u32 (id : Int), .int .i64 m, .int .i64 c, .int .i64 r, .int .i64 l, .int .i64 h] 24
  have t0 := Ext.alloc (Below.refl w.heap.size w) (.cells #[.int .u32 (id : Int), .int .i64 m, .int .i64 c, .int .i64 r, .int .i64 l, .int .i64 h] 24)
  refine (talive_any _).mono ?_
  rintro e' w1 ⟨rfl, b1⟩
  have A1 := A0.next b1
  have t1 := Ext.trans t0 b1
  have x1 := A1.cell
  clear A0 t0 b1
  go_wp2_with fail
  refine (K1.out _).mono ?_
  rintro e' w2 ⟨rfl, b2⟩
  have A2 := (A1.next b2).alloc (.cells #[.int .i64 (sp), .int .i64 (sq), .int .i64 (sv)] 27)
  have B2 := BoxOf.new w2 #[.int .i64 (sp), .int .i64 (sq), .int .i64 (sv)] 27
  have t2 := Ext.alloc (Ext.trans t1 b2) (.cells #[.int .i64 (sp), .int .i64 (sq), .int .i64 (sv)] 27)
  have x2 := (A1.next b2).cell
  have y2 := B2.cell
  have l2 := (A1.next b2).lt
  clear A1 x1 t1 b2
  have A4 := A2
  have t4 := t2
  have x4 := x2
  clear A2 t2 x2 B2 y2
  go_wp2_with fail
  refine (K4.out _).mono ?_
  rintro e' w5 ⟨rfl, b5⟩
  have A5 := A4.next b5
  have t5 := Ext.trans t4 b5
  have x5 := A5.cell
  clear x4 A4 t4 b5
  go_wp2_with fail
  refine (K5.out _).mono ?_
  rintro e' w6 ⟨rfl, b6⟩
  have A6 := A5.next b6
  have t6 := Ext.trans t5 b6
  have x6 := A6.cell
  clear x5 A5 t5 b6
  go_wp2_with fail
  refine (K6.out _).mono ?_
  rintro e' w7 ⟨rfl, b7⟩
  have A7 := A6.next b7
  have t7 := Ext.trans t6 b7
  have x7 := A7.cell
  clear x6 A6 t6 b7
  go_wp2
  go_ret
  exact ⟨rfl, t7⟩

set_option maxRecDepth 100000 in
theorem back_bc (x : Cfg) (b s mm sp sq sv e k hh : Int) (hm : -1000 ≤ x.m ∧ x.m ≤ 1000) (k1 : ∀ W, Calls Try.prog 9 #[x.val, .int .i64 (b)] W fun e' w' => e' = .returned (.tuple #[.agg #[.int .i64 (sp), .int .i64 (sq), .int .i64 (sv)], .int .i64 (e)]) ∧ Below W.heap.size W w') (k4 : ∀ W, Calls Try.prog 15 #[x.val, .int .i64 (s), .int .i64 (mm)] W fun e' w' => e' = .returned (.tuple #[.int .i64 (k), .int .i64 (hh)]) ∧ Below W.heap.size W w') (he : (e == 0) = false) (hh0 : hh = 0) (k5 : ∀ W, Calls Try.prog 14 #[x.val, .int .i64 (s), .int .i64 (k)] W fun e' w' => e' = .returned (.tuple #[.int .i64 (mm), .int .i64 (0)]) ∧ Below W.heap.size W w') (p : Int) (k6 : ∀ W, Calls Try.prog 11 #[x.val, .int .i64 (s)] W fun e' w' => e' = .returned (.tuple #[.int .i64 (p), .int .i64 (0)]) ∧ Below W.heap.size W w') (hkm : (k == x.m - 1) = false) (hpm : (p == mm) = false) (b2 : Int) (k7 : ∀ W, Calls Try.prog 12 #[x.val, .int .i64 (s), .int .i64 (k)] W fun e' w' => e' = .returned (.tuple #[.int .i64 (b2), .int .i64 (0)]) ∧ Below W.heap.size W w') (k8 : ∀ W, Calls Try.prog 9 #[x.val, .int .i64 (b2)] W fun e' w' => e' = .returned (.tuple #[.agg #[.int .i64 (s), .int .i64 (k), .int .i64 (mm)], .int .i64 (0)]) ∧ Below W.heap.size W w') (w : World) :
    Calls Try.prog 7 #[x.val, .int .i64 b, .int .i64 s, .int .i64 mm] w fun e w' => e = .returned (.bool true) ∧ Below w.heap.size w w' := by
  have K1 := Lib.hid k1
  have K4 := Lib.hid k4
  clear k1 k4
  obtain ⟨hm1, hm2⟩ := hm

  subst hh0
  have K5 := Lib.hid k5
  have K6 := Lib.hid k6
  have K7 := Lib.hid k7
  have K8 := Lib.hid k8
  clear k5 k6 k7 k8
  obtain ⟨id, m, c, r, l, h⟩ := x
  unfold Cfg.val at *
  dsimp only at *
  go_enter Try.func7, Try.ntmps7
  go_wp2_with fail
  have A0 := BoxOf.new w #[.int .u32 (id : Int), .int .i64 m, .int .i64 c, .int .i64 r, .int .i64 l, .int .i64 h] 24
  have t0 := Ext.alloc (Below.refl w.heap.size w) (.cells #[.int .u32 (id : Int), .int .i64 m, .int .i64 c, .int .i64 r, .int .i64 l, .int .i64 h] 24)
  refine (talive_any _).mono ?_
  rintro e' w1 ⟨rfl, b1⟩
  have A1 := A0.next b1
  have t1 := Ext.trans t0 b1
  have x1 := A1.cell
  clear A0 t0 b1
  go_wp2_with fail
  refine (K1.out _).mono ?_
  rintro e' w2 ⟨rfl, b2⟩
  have A2 := (A1.next b2).alloc (.cells #[.int .i64 (sp), .int .i64 (sq), .int .i64 (sv)] 27)
  have B2 := BoxOf.new w2 #[.int .i64 (sp), .int .i64 (sq), .int .i64 (sv)] 27
  have t2 := Ext.alloc (Ext.trans t1 b2) (.cells #[.int .i64 (sp), .int .i64 (sq), .int .i64 (sv)] 27)
  have x2 := (A1.next b2).cell
  have y2 := B2.cell
  have l2 := (A1.next b2).lt
  clear A1 x1 t1 b2
  have A4 := A2
  have t4 := t2
  have x4 := x2
  clear A2 t2 x2 B2 y2
  go_wp2_with fail
  refine (K4.out _).mono ?_
  rintro e' w5 ⟨rfl, b5⟩
  have A5 := A4.next b5
  have t5 := Ext.trans t4 b5
  have x5 := A5.cell
  clear x4 A4 t4 b5
  go_wp2_with fail
  refine (K5.out _).mono ?_
  rintro e' w6 ⟨rfl, b6⟩
  have A6 := A5.next b6
  have t6 := Ext.trans t5 b6
  have x6 := A6.cell
  clear x5 A5 t5 b6
  go_wp2_with fail
  refine (K6.out _).mono ?_
  rintro e' w7 ⟨rfl, b7⟩
  have A7 := A6.next b7
  have t7 := Ext.trans t6 b7
  have x7 := A7.cell
  clear x6 A6 t6 b7
  go_wp2_with fail
  refine (K7.out _).mono ?_
  rintro e' w8 ⟨rfl, b8⟩
  have A8 := A7.next b8
  have t8 := Ext.trans t7 b8
  have x8 := A8.cell
  clear x7 A7 t7 b8
  go_wp2_with fail
  refine (K8.out _).mono ?_
  rintro e' w9 ⟨rfl, b9⟩
  have t9 := Ext.alloc (Ext.trans t8 b9) (.cells #[.int .i64 (s), .int .i64 (k), .int .i64 (mm)] 27)
  clear x8 A8 t8 b9
  go_wp2
  go_ret
  exact ⟨rfl, t9⟩
end Go.Proofs.Ytdeffbhkmmppmaa
