/- Layer 8 (split): touching is mutual: the statement. -/
import Derived.Test.YtmoaflnggcbhkaaSplitLaws2
import Derived.Test.YtmoaflnggcbhkaaSplit6
namespace Go.Proofs.Ytmoaflnggcbhkaa
open Go.RowKit
set_option linter.unusedSimpArgs false
set_option linter.unusedVariables false

theorem lwrites_any (k : Int) (w : World) : Calls Try.prog 21 #[.int .u8 k] w fun e w' => e = .returned (.bool (kWrites k)) ∧ w = w' := by
  by_cases h2 : k = 2
  · subst h2; go_enter Try.func21, Try.ntmps21; go_wp2; go_ret; exact ⟨rfl, rfl⟩
  by_cases h3 : k = 3
  · subst h3; go_enter Try.func21, Try.ntmps21; go_wp2; go_ret; exact ⟨rfl, rfl⟩
  by_cases h5 : k = 5
  · subst h5; go_enter Try.func21, Try.ntmps21; go_wp2; go_ret; exact ⟨rfl, rfl⟩
  have e : kWrites k = false := decide_eq_false (by omega)
  have g2 : (k == 2) = false := beq_eq_false_iff_ne.2 h2
  have g3 : (k == 3) = false := beq_eq_false_iff_ne.2 h3
  have g5 : (k == 5) = false := beq_eq_false_iff_ne.2 h5
  rw [e]
  clear e h2 h3 h5
  go_enter Try.func21, Try.ntmps21; go_wp2; go_ret; exact ⟨rfl, rfl⟩

set_option maxRecDepth 100000 in
theorem mutual_long (x : Cfg) (k1 a1 y1 k2 a2 y2 : Int) (A1 A2 : Option Addr) (n1 q1 n2 q2 : Nat) (hn : 5000 < (n1 : Int) ∨ ((n1 : Int) ≤ 5000 ∧ 5000 < (n2 : Int))) (w : World) : Calls Try.prog 8 #[x.val, .agg #[.int .u8 k1, .int .i64 a1, .int .i64 y1, .slice A1 n1 q1], .agg #[.int .u8 k2, .int .i64 a2, .int .i64 y2, .slice A2 n2 q2]] w fun e w' => e = .returned (.bool true) ∧ Below w.heap.size w w' := by
  rcases hn with hn | ⟨hn1, hn⟩
  all_goals
    obtain ⟨id, m, c, r, l, h⟩ := x
    unfold Cfg.val at *
    dsimp only at *
    go_enter Try.func8, Try.ntmps8
    go_wp2_with fail
    have C0 := BoxOf.alloc (BoxOf.alloc (BoxOf.new w #[.int .u32 (id : Int), .int .i64 m, .int .i64 c, .int .i64 r, .int .i64 l, .int .i64 h] 24) (.cells #[.int .u8 k1, .int .i64 a1, .int .i64 y1, .slice A1 n1 q1] 32)) (.cells #[.int .u8 k2, .int .i64 a2, .int .i64 y2, .slice A2 n2 q2] 32)
    have A0 := BoxOf.alloc (BoxOf.new' (w.alloc (.cells #[.int .u32 (id : Int), .int .i64 m, .int .i64 c, .int .i64 r, .int .i64 l, .int .i64 h] 24)) (w.heap.size + 1) #[.int .u8 k1, .int .i64 a1, .int .i64 y1, .slice A1 n1 q1] 32 (by simp)) (.cells #[.int .u8 k2, .int .i64 a2, .int .i64 y2, .slice A2 n2 q2] 32)
    have D0 := BoxOf.new' ((w.alloc (.cells #[.int .u32 (id : Int), .int .i64 m, .int .i64 c, .int .i64 r, .int .i64 l, .int .i64 h] 24)).alloc (.cells #[.int .u8 k1, .int .i64 a1, .int .i64 y1, .slice A1 n1 q1] 32)) (w.heap.size + 2) #[.int .u8 k2, .int .i64 a2, .int .i64 y2, .slice A2 n2 q2] 32 (by simp)
    have t0 := Ext.alloc (Ext.alloc (Ext.alloc (Below.refl w.heap.size w) (.cells #[.int .u32 (id : Int), .int .i64 m, .int .i64 c, .int .i64 r, .int .i64 l, .int .i64 h] 24)) (.cells #[.int .u8 k1, .int .i64 a1, .int .i64 y1, .slice A1 n1 q1] 32)) (.cells #[.int .u8 k2, .int .i64 a2, .int .i64 y2, .slice A2 n2 q2] 32)
    have x0 := C0.cell
    refine (spalive_any _).mono ?_
    rintro e w1 ⟨rfl, b1⟩
    have C1 := C0.next b1
    have A1 := A0.next b1
    have D1 := D0.next b1
    have t1 := Ext.trans t0 b1
    clear x0
    have x1 := C1.cell
    have y1 := A1.cell
    have z1 := D1.cell
    clear C0 A0 D0 t0 b1
    go_wp2
    go_ret
    exact ⟨rfl, t1⟩

set_option maxRecDepth 100000 in
theorem mutual_no1 (x : Cfg) (k1 a1 y1 k2 a2 y2 : Int) (A1 A2 : Option Addr) (n1 q1 n2 q2 : Nat) (hn1 : (n1 : Int) ≤ 5000) (hn2 : (n2 : Int) ≤ 5000) (E : Int) (hE : (E != 0) = true) (k1' : ∀ W, Calls Try.prog 11 #[x.val, .agg #[.int .u8 k1, .int .i64 a1, .int .i64 y1, .slice A1 n1 q1]] W fun e w' => e = .returned (.int .i64 E) ∧ Below W.heap.size W w') (w : World) : Calls Try.prog 8 #[x.val, .agg #[.int .u8 k1, .int .i64 a1, .int .i64 y1, .slice A1 n1 q1], .agg #[.int .u8 k2, .int .i64 a2, .int .i64 y2, .slice A2 n2 q2]] w fun e w' => e = .returned (.bool true) ∧ Below w.heap.size w w' := by
  have K1 := Lib.hid k1'
  clear k1'
  obtain ⟨id, m, c, r, l, h⟩ := x
  unfold Cfg.val at *
  dsimp only at *
  go_enter Try.func8, Try.ntmps8
  go_wp2_with fail
  have C0 := BoxOf.alloc (BoxOf.alloc (BoxOf.new w #[.int .u32 (id : Int), .int .i64 m, .int .i64 c, .int .i64 r, .int .i64 l, .int .i64 h] 24) (.cells #[.int .u8 k1, .int .i64 a1, .int .i64 y1, .slice A1 n1 q1] 32)) (.cells #[.int .u8 k2, .int .i64 a2, .int .i64 y2, .slice A2 n2 q2] 32)
  have A0 := BoxOf.alloc (BoxOf.new' (w.alloc (.cells #[.int .u32 (id : Int), .int .i64 m, .int .i64 c, .int .i64 r, .int .i64 l, .int .i64 h] 24)) (w.heap.size + 1) #[.int .u8 k1, .int .i64 a1, .int .i64 y1, .slice A1 n1 q1] 32 (by simp)) (.cells #[.int .u8 k2, .int .i64 a2, .int .i64 y2, .slice A2 n2 q2] 32)
  have D0 := BoxOf.new' ((w.alloc (.cells #[.int .u32 (id : Int), .int .i64 m, .int .i64 c, .int .i64 r, .int .i64 l, .int .i64 h] 24)).alloc (.cells #[.int .u8 k1, .int .i64 a1, .int .i64 y1, .slice A1 n1 q1] 32)) (w.heap.size + 2) #[.int .u8 k2, .int .i64 a2, .int .i64 y2, .slice A2 n2 q2] 32 (by simp)
  have t0 := Ext.alloc (Ext.alloc (Ext.alloc (Below.refl w.heap.size w) (.cells #[.int .u32 (id : Int), .int .i64 m, .int .i64 c, .int .i64 r, .int .i64 l, .int .i64 h] 24)) (.cells #[.int .u8 k1, .int .i64 a1, .int .i64 y1, .slice A1 n1 q1] 32)) (.cells #[.int .u8 k2, .int .i64 a2, .int .i64 y2, .slice A2 n2 q2] 32)
  have x0 := C0.cell
  refine (spalive_any _).mono ?_
  rintro e w1 ⟨rfl, b1⟩
  have C1 := C0.next b1
  have A1 := A0.next b1
  have D1 := D0.next b1
  have t1 := Ext.trans t0 b1
  clear x0
  have x1 := C1.cell
  have y1 := A1.cell
  have z1 := D1.cell
  clear C0 A0 D0 t0 b1
  go_wp2_with fail
  refine (K1.out _).mono ?_
  rintro e w2 ⟨rfl, b2⟩
  have C2 := C1.next b2
  have A2 := A1.next b2
  have D2 := D1.next b2
  have t2 := Ext.trans t1 b2
  clear x1
  have x2 := C2.cell
  have y2 := A2.cell
  have z2 := D2.cell
  clear C1 A1 D1 t1 b2
  try clear y1 z1
  go_wp2
  go_ret
  exact ⟨rfl, t2⟩

set_option maxRecDepth 100000 in
theorem mutual_no2 (x : Cfg) (k1 a1 y1 k2 a2 y2 : Int) (A1 A2 : Option Addr) (n1 q1 n2 q2 : Nat) (hn1 : (n1 : Int) ≤ 5000) (hn2 : (n2 : Int) ≤ 5000) (E : Int) (hE : (E != 0) = true) (k1' : ∀ W, Calls Try.prog 11 #[x.val, .agg #[.int .u8 k1, .int .i64 a1, .int .i64 y1, .slice A1 n1 q1]] W fun e w' => e = .returned (.int .i64 0) ∧ Below W.heap.size W w')
    (k2' : ∀ W, Calls Try.prog 11 #[x.val, .agg #[.int .u8 k2, .int .i64 a2, .int .i64 y2, .slice A2 n2 q2]] W fun e w' => e = .returned (.int .i64 E) ∧ Below W.heap.size W w') (w : World) : Calls Try.prog 8 #[x.val, .agg #[.int .u8 k1, .int .i64 a1, .int .i64 y1, .slice A1 n1 q1], .agg #[.int .u8 k2, .int .i64 a2, .int .i64 y2, .slice A2 n2 q2]] w fun e w' => e = .returned (.bool true) ∧ Below w.heap.size w w' := by
  have K1 := Lib.hid k1'
  have K2 := Lib.hid k2'
  clear k1' k2'
  obtain ⟨id, m, c, r, l, h⟩ := x
  unfold Cfg.val at *
  dsimp only at *
  go_enter Try.func8, Try.ntmps8
  go_wp2_with fail
  have C0 := BoxOf.alloc (BoxOf.alloc (BoxOf.new w #[.int .u32 (id : Int), .int .i64 m, .int .i64 c, .int .i64 r, .int .i64 l, .int .i64 h] 24) (.cells #[.int .u8 k1, .int .i64 a1, .int .i64 y1, .slice A1 n1 q1] 32)) (.cells #[.int .u8 k2, .int .i64 a2, .int .i64 y2, .slice A2 n2 q2] 32)
  have A0 := BoxOf.alloc (BoxOf.new' (w.alloc (.cells #[.int .u32 (id : Int), .int .i64 m, .int .i64 c, .int .i64 r, .int .i64 l, .int .i64 h] 24)) (w.heap.size + 1) #[.int .u8 k1, .int .i64 a1, .int .i64 y1, .slice A1 n1 q1] 32 (by simp)) (.cells #[.int .u8 k2, .int .i64 a2, .int .i64 y2, .slice A2 n2 q2] 32)
  have D0 := BoxOf.new' ((w.alloc (.cells #[.int .u32 (id : Int), .int .i64 m, .int .i64 c, .int .i64 r, .int .i64 l, .int .i64 h] 24)).alloc (.cells #[.int .u8 k1, .int .i64 a1, .int .i64 y1, .slice A1 n1 q1] 32)) (w.heap.size + 2) #[.int .u8 k2, .int .i64 a2, .int .i64 y2, .slice A2 n2 q2] 32 (by simp)
  have t0 := Ext.alloc (Ext.alloc (Ext.alloc (Below.refl w.heap.size w) (.cells #[.int .u32 (id : Int), .int .i64 m, .int .i64 c, .int .i64 r, .int .i64 l, .int .i64 h] 24)) (.cells #[.int .u8 k1, .int .i64 a1, .int .i64 y1, .slice A1 n1 q1] 32)) (.cells #[.int .u8 k2, .int .i64 a2, .int .i64 y2, .slice A2 n2 q2] 32)
  have x0 := C0.cell
  refine (spalive_any _).mono ?_
  rintro e w1 ⟨rfl, b1⟩
  have C1 := C0.next b1
  have A1 := A0.next b1
  have D1 := D0.next b1
  have t1 := Ext.trans t0 b1
  clear x0
  have x1 := C1.cell
  have y1 := A1.cell
  have z1 := D1.cell
  clear C0 A0 D0 t0 b1
  go_wp2_with fail
  refine (K1.out _).mono ?_
  rintro e w2 ⟨rfl, b2⟩
  have C2 := C1.next b2
  have A2 := A1.next b2
  have D2 := D1.next b2
  have t2 := Ext.trans t1 b2
  clear x1
  have x2 := C2.cell
  have y2 := A2.cell
  have z2 := D2.cell
  clear C1 A1 D1 t1 b2
  try clear y1 z1
  go_wp2_with fail
  refine (K2.out _).mono ?_
  rintro e w3 ⟨rfl, b3⟩
  have C3 := C2.next b3
  have A3 := A2.next b3
  have D3 := D2.next b3
  have t3 := Ext.trans t2 b3
  clear x2
  have x3 := C3.cell
  have y3 := A3.cell
  have z3 := D3.cell
  clear C2 A2 D2 t2 b3
  try clear y2 z2
  go_wp2
  go_ret
  exact ⟨rfl, t3⟩

set_option maxRecDepth 100000 in
set_option maxHeartbeats 1000000 in
theorem mutual_ok (x : Cfg) (k1 a1 y1 k2 a2 y2 : Int) (A1 A2 : Option Addr) (n1 q1 n2 q2 : Nat) (hn1 : (n1 : Int) ≤ 5000) (hn2 : (n2 : Int) ≤ 5000) (t w1 w2 : Bool) (k1' : ∀ W, Calls Try.prog 11 #[x.val, .agg #[.int .u8 k1, .int .i64 a1, .int .i64 y1, .slice A1 n1 q1]] W fun e w' => e = .returned (.int .i64 0) ∧ Below W.heap.size W w')
    (k2' : ∀ W, Calls Try.prog 11 #[x.val, .agg #[.int .u8 k2, .int .i64 a2, .int .i64 y2, .slice A2 n2 q2]] W fun e w' => e = .returned (.int .i64 0) ∧ Below W.heap.size W w')
    (k3' : ∀ W, Calls Try.prog 15 #[x.val, .agg #[.int .u8 k1, .int .i64 a1, .int .i64 y1, .slice A1 n1 q1], .agg #[.int .u8 k2, .int .i64 a2, .int .i64 y2, .slice A2 n2 q2]] W fun e w' => e = .returned (.tuple #[.bool t, .int .i64 0]) ∧ Below W.heap.size W w') (k4' : ∀ W, Calls Try.prog 15 #[x.val, .agg #[.int .u8 k2, .int .i64 a2, .int .i64 y2, .slice A2 n2 q2], .agg #[.int .u8 k1, .int .i64 a1, .int .i64 y1, .slice A1 n1 q1]] W fun e w' => e = .returned (.tuple #[.bool t, .int .i64 0]) ∧ Below W.heap.size W w') (k5' : ∀ W, Calls Try.prog 15 #[x.val, .agg #[.int .u8 k1, .int .i64 a1, .int .i64 y1, .slice A1 n1 q1], .agg #[.int .u8 k1, .int .i64 a1, .int .i64 y1, .slice A1 n1 q1]] W fun e w' => e = .returned (.tuple #[.bool w1, .int .i64 0]) ∧ Below W.heap.size W w')
    (k6' : ∀ W, Calls Try.prog 21 #[.int .u8 k1] W fun e w' => e = .returned (.bool w1) ∧ W = w')
    (k7' : ∀ W, Calls Try.prog 21 #[.int .u8 k2] W fun e w' => e = .returned (.bool w2) ∧ W = w')
    (ht : w1 = true ∨ (w1 = false ∧ w2 = true) ∨ (w1 = false ∧ w2 = false ∧ t = false)) (w : World) : Calls Try.prog 8 #[x.val, .agg #[.int .u8 k1, .int .i64 a1, .int .i64 y1, .slice A1 n1 q1], .agg #[.int .u8 k2, .int .i64 a2, .int .i64 y2, .slice A2 n2 q2]] w fun e w' => e = .returned (.bool true) ∧ Below w.heap.size w w' := by
  have K1 := Lib.hid k1'
  have K2 := Lib.hid k2'
  have K3 := Lib.hid k3'
  have K4 := Lib.hid k4'
  have K5 := Lib.hid k5'
  have K6 := Lib.hid k6'
  have K7 := Lib.hid k7'
  clear k1' k2' k3' k4' k5' k6' k7'
  rcases ht with rfl | ⟨rfl, rfl⟩ | ⟨rfl, rfl, rfl⟩
  · obtain ⟨id, m, c, r, l, h⟩ := x
    unfold Cfg.val at *
    dsimp only at *
    go_enter Try.func8, Try.ntmps8
    go_wp2_with fail
    have C0 := BoxOf.alloc (BoxOf.alloc (BoxOf.new w #[.int .u32 (id : Int), .int .i64 m, .int .i64 c, .int .i64 r, .int .i64 l, .int .i64 h] 24) (.cells #[.int .u8 k1, .int .i64 a1, .int .i64 y1, .slice A1 n1 q1] 32)) (.cells #[.int .u8 k2, .int .i64 a2, .int .i64 y2, .slice A2 n2 q2] 32)
    have A0 := BoxOf.alloc (BoxOf.new' (w.alloc (.cells #[.int .u32 (id : Int), .int .i64 m, .int .i64 c, .int .i64 r, .int .i64 l, .int .i64 h] 24)) (w.heap.size + 1) #[.int .u8 k1, .int .i64 a1, .int .i64 y1, .slice A1 n1 q1] 32 (by simp)) (.cells #[.int .u8 k2, .int .i64 a2, .int .i64 y2, .slice A2 n2 q2] 32)
    have D0 := BoxOf.new' ((w.alloc (.cells #[.int .u32 (id : Int), .int .i64 m, .int .i64 c, .int .i64 r, .int .i64 l, .int .i64 h] 24)).alloc (.cells #[.int .u8 k1, .int .i64 a1, .int .i64 y1, .slice A1 n1 q1] 32)) (w.heap.size + 2) #[.int .u8 k2, .int .i64 a2, .int .i64 y2, .slice A2 n2 q2] 32 (by simp)
    have t0 := Ext.alloc (Ext.alloc (Ext.alloc (Below.refl w.heap.size w) (.cells #[.int .u32 (id : Int), .int .i64 m, .int .i64 c, .int .i64 r, .int .i64 l, .int .i64 h] 24)) (.cells #[.int .u8 k1, .int .i64 a1, .int .i64 y1, .slice A1 n1 q1] 32)) (.cells #[.int .u8 k2, .int .i64 a2, .int .i64 y2, .slice A2 n2 q2] 32)
    have x0 := C0.cell
    refine (spalive_any _).mono ?_
    rintro e w1 ⟨rfl, b1⟩
    have C1 := C0.next b1
    have A1 := A0.next b1
    have D1 := D0.next b1
    have t1 := Ext.trans t0 b1
    clear x0
    have x1 := C1.cell
    have y1 := A1.cell
    have z1 := D1.cell
    clear C0 A0 D0 t0 b1
    go_wp2_with fail
    refine (K1.out _).mono ?_
    rintro e w2 ⟨rfl, b2⟩
    have C2 := C1.next b2
    have A2 := A1.next b2
    have D2 := D1.next b2
    have t2 := Ext.trans t1 b2
    clear x1
    have x2 := C2.cell
    have y2 := A2.cell
    have z2 := D2.cell
    clear C1 A1 D1 t1 b2
    try clear y1 z1
    go_wp2_with fail
    refine (K2.out _).mono ?_
    rintro e w3 ⟨rfl, b3⟩
    have C3 := C2.next b3
    have A3 := A2.next b3
    have D3 := D2.next b3
    have t3 := Ext.trans t2 b3
    clear x2
    have x3 := C3.cell
    have y3 := A3.cell
    have z3 := D3.cell
    clear C2 A2 D2 t2 b3
    try clear y2 z2
    go_wp2_with fail
    refine (K3.out _).mono ?_
    rintro e w4 ⟨rfl, b4⟩
    have C4 := C3.next b4
    have A4 := A3.next b4
    have D4 := D3.next b4
    have t4 := Ext.trans t3 b4
    clear x3
    have x4 := C4.cell
    have y4 := A4.cell
    have z4 := D4.cell
    clear C3 A3 D3 t3 b4
    try clear y3 z3
    go_wp2_with fail
    refine (K4.out _).mono ?_
    rintro e w5 ⟨rfl, b5⟩
    have C5 := C4.next b5
    have A5 := A4.next b5
    have D5 := D4.next b5
    have t5 := Ext.trans t4 b5
    clear x4
    have x5 := C5.cell
    have y5 := A5.cell
    have z5 := D5.cell
    clear C4 A4 D4 t4 b5
    try clear y4 z4
    go_wp2_with fail
    refine (K5.out _).mono ?_
    rintro e w6 ⟨rfl, b6⟩
    have C6 := C5.next b6
    have A6 := A5.next b6
    have D6 := D5.next b6
    have t6 := Ext.trans t5 b6
    clear x5
    have x6 := C6.cell
    have y6 := A6.cell
    have z6 := D6.cell
    clear C5 A5 D5 t5 b6
    try clear y5 z5
    go_wp2_with fail
    refine (K6.out _).mono ?_
    rintro e w7 ⟨rfl, rfl⟩
    go_wp2_with fail
    refine (K6.out _).mono ?_
    rintro e w7 ⟨rfl, rfl⟩
    go_wp2
    go_ret
    exact ⟨rfl, t6⟩
  all_goals
    obtain ⟨id, m, c, r, l, h⟩ := x
    unfold Cfg.val at *
    dsimp only at *
    go_enter Try.func8, Try.ntmps8
    go_wp2_with fail
    have C0 := BoxOf.alloc (BoxOf.alloc (BoxOf.new w #[.int .u32 (id : Int), .int .i64 m, .int .i64 c, .int .i64 r, .int .i64 l, .int .i64 h] 24) (.cells #[.int .u8 k1, .int .i64 a1, .int .i64 y1, .slice A1 n1 q1] 32)) (.cells #[.int .u8 k2, .int .i64 a2, .int .i64 y2, .slice A2 n2 q2] 32)
    have A0 := BoxOf.alloc (BoxOf.new' (w.alloc (.cells #[.int .u32 (id : Int), .int .i64 m, .int .i64 c, .int .i64 r, .int .i64 l, .int .i64 h] 24)) (w.heap.size + 1) #[.int .u8 k1, .int .i64 a1, .int .i64 y1, .slice A1 n1 q1] 32 (by simp)) (.cells #[.int .u8 k2, .int .i64 a2, .int .i64 y2, .slice A2 n2 q2] 32)
    have D0 := BoxOf.new' ((w.alloc (.cells #[.int .u32 (id : Int), .int .i64 m, .int .i64 c, .int .i64 r, .int .i64 l, .int .i64 h] 24)).alloc (.cells #[.int .u8 k1, .int .i64 a1, .int .i64 y1, .slice A1 n1 q1] 32)) (w.heap.size + 2) #[.int .u8 k2, .int .i64 a2, .int .i64 y2, .slice A2 n2 q2] 32 (by simp)
    have t0 := Ext.alloc (Ext.alloc (Ext.alloc (Below.refl w.heap.size w) (.cells #[.int .u32 (id : Int), .int .i64 m, .int .i64 c, .int .i64 r, .int .i64 l, .int .i64 h] 24)) (.cells #[.int .u8 k1, .int .i64 a1, .int .i64 y1, .slice A1 n1 q1] 32)) (.cells #[.int .u8 k2, .int .i64 a2, .int .i64 y2, .slice A2 n2 q2] 32)
    have x0 := C0.cell
    refine (spalive_any _).mono ?_
    rintro e w1 ⟨rfl, b1⟩
    have C1 := C0.next b1
    have A1 := A0.next b1
    have D1 := D0.next b1
    have t1 := Ext.trans t0 b1
    clear x0
    have x1 := C1.cell
    have y1 := A1.cell
    have z1 := D1.cell
    clear C0 A0 D0 t0 b1
    go_wp2_with fail
    refine (K1.out _).mono ?_
    rintro e w2 ⟨rfl, b2⟩
    have C2 := C1.next b2
    have A2 := A1.next b2
    have D2 := D1.next b2
    have t2 := Ext.trans t1 b2
    clear x1
    have x2 := C2.cell
    have y2 := A2.cell
    have z2 := D2.cell
    clear C1 A1 D1 t1 b2
    try clear y1 z1
    go_wp2_with fail
    refine (K2.out _).mono ?_
    rintro e w3 ⟨rfl, b3⟩
    have C3 := C2.next b3
    have A3 := A2.next b3
    have D3 := D2.next b3
    have t3 := Ext.trans t2 b3
    clear x2
    have x3 := C3.cell
    have y3 := A3.cell
    have z3 := D3.cell
    clear C2 A2 D2 t2 b3
    try clear y2 z2
    go_wp2_with fail
    refine (K3.out _).mono ?_
    rintro e w4 ⟨rfl, b4⟩
    have C4 := C3.next b4
    have A4 := A3.next b4
    have D4 := D3.next b4
    have t4 := Ext.trans t3 b4
    clear x3
    have x4 := C4.cell
    have y4 := A4.cell
    have z4 := D4.cell
    clear C3 A3 D3 t3 b4
    try clear y3 z3
    go_wp2_with fail
    refine (K4.out _).mono ?_
    rintro e w5 ⟨rfl, b5⟩
    have C5 := C4.next b5
    have A5 := A4.next b5
    have D5 := D4.next b5
    have t5 := Ext.trans t4 b5
    clear x4
    have x5 := C5.cell
    have y5 := A5.cell
    have z5 := D5.cell
    clear C4 A4 D4 t4 b5
    try clear y4 z4
    go_wp2_with fail
    refine (K5.out _).mono ?_
    rintro e w6 ⟨rfl, b6⟩
    have C6 := C5.next b6
    have A6 := A5.next b6
    have D6 := D5.next b6
    have t6 := Ext.trans t5 b6
    clear x5
    have x6 := C6.cell
    have y6 := A6.cell
    have z6 := D6.cell
    clear C5 A5 D5 t5 b6
    try clear y5 z5
    go_wp2_with fail
    refine (K6.out _).mono ?_
    rintro e w7 ⟨rfl, rfl⟩
    go_wp2_with fail
    refine (K6.out _).mono ?_
    rintro e w7 ⟨rfl, rfl⟩
    go_wp2_with fail
    refine (K7.out _).mono ?_
    rintro e w7 ⟨rfl, rfl⟩
    go_wp2
    go_ret
    exact ⟨rfl, t6⟩

theorem splitMutual_walk (w : World) (cs : List Value) (y : (Ty.st (.prod .u32 (.prod .int (.prod .int (.prod .int (.prod .int (.prod .int .unit))))))).T) (h0 : Reads w (Ty.st (.prod .u32 (.prod .int (.prod .int (.prod .int (.prod .int (.prod .int .unit))))))) y cs) (ds : List Value) (z : (Ty.st (.prod .byte (.prod .int (.prod .int (.prod (.sl .byte) .unit))))).T) (h1 : Reads w (Ty.st (.prod .byte (.prod .int (.prod .int (.prod (.sl .byte) .unit))))) z ds) (es : List Value) (u : (Ty.st (.prod .byte (.prod .int (.prod .int (.prod (.sl .byte) .unit))))).T) (h2 : Reads w (Ty.st (.prod .byte (.prod .int (.prod .int (.prod (.sl .byte) .unit))))) u es) :
    Calls Try.prog 8 #[.agg cs.toArray, .agg ds.toArray, .agg es.toArray] w fun e w' => e = .returned (.bool true) ∧ Below w.heap.size w w' := by
  obtain ⟨x, hx, _⟩ := cfg_open h0
  obtain ⟨k1, a1, y1, A1, bs1, q1, hv1, _, _, _, _, _, _⟩ := ask_open h1
  obtain ⟨k2, a2, y2, A2, bs2, q2, hv2, _, _, _, _, _, _⟩ := ask_open h2
  rw [hx, hv1, hv2]
  generalize bs1.length = n1
  generalize bs2.length = n2
  rcases (show (5000 < (n1 : Int) ∨ ((n1 : Int) ≤ 5000 ∧ 5000 < (n2 : Int))) ∨ ((n1 : Int) ≤ 5000 ∧ (n2 : Int) ≤ 5000) by omega) with h | ⟨hn1, hn2⟩
  · exact mutual_long x k1 a1 y1 k2 a2 y2 A1 A2 n1 q1 n2 q2 h w
  · have c1 := scheck_all x k1 a1 y1 A1 n1 q1
    have c2 := scheck_all x k2 a2 y2 A2 n2 q2
    by_cases e1 : askCode x k1 a1 y1 n1 = 0
    · by_cases e2 : askCode x k2 a2 y2 n2 = 0
      · have z1 := touch_all x k1 a1 y1 k2 a2 y2 A1 A2 n1 q1 n2 q2 e1 e2
        have z2 := touch_all x k2 a2 y2 k1 a1 y1 A2 A1 n2 q2 n1 q1 e2 e1
        have z3 := touch_all x k1 a1 y1 k1 a1 y1 A1 A1 n1 q1 n1 q1 e1 e1
        rw [touchB_self _ _ _ (askCode_0 e1).2.2.2.2.2] at z3
        rw [touchB_comm] at z2
        rw [e1] at c1
        rw [e2] at c2
        refine mutual_ok x k1 a1 y1 k2 a2 y2 A1 A2 n1 q1 n2 q2 hn1 hn2 _ _ _ c1 c2 z1 z2 z3 (lwrites_any k1) (lwrites_any k2) ?_ w
        cases h1 : kWrites k1 <;> cases h2 : kWrites k2
        · exact .inr (.inr ⟨rfl, rfl, touchB_read _ _ _ _ _ _ h1 h2⟩)
        · exact .inr (.inl ⟨rfl, rfl⟩)
        · exact .inl rfl
        · exact .inl rfl
      · rw [e1] at c1
        exact mutual_no2 x k1 a1 y1 k2 a2 y2 A1 A2 n1 q1 n2 q2 hn1 hn2 _ (askCode_ne _ _ _ _ _ e2) c1 c2 w
    · exact mutual_no1 x k1 a1 y1 k2 a2 y2 A1 A2 n1 q1 n2 q2 hn1 hn2 _ (askCode_ne _ _ _ _ _ e1) c1 w
end Go.Proofs.Ytmoaflnggcbhkaa
