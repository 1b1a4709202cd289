/- Layer 8 (split): all blocks, each once; who touches has one in common. -/
import Derived.Test.YtmoaflnggcbhkaaSplitLaws3
namespace Go.Proofs.Ytmoaflnggcbhkaa
open Go.RowKit
set_option linter.unusedSimpArgs false
set_option linter.unusedVariables false

set_option maxRecDepth 100000 in
theorem all_long (x : Cfg) (k1 a1 y1 k2 a2 y2 : Int) (A1 A2 : Option Addr) (n1 q1 n2 q2 : Nat) (hn : 5000 < (n1 : Int) ∨ ((n1 : Int) ≤ 5000 ∧ 5000 < (n2 : Int))) (w : World) : Calls Try.prog 7 #[x.val, .agg #[.int .u8 k1, .int .i64 a1, .int .i64 y1, .slice A1 n1 q1], .agg #[.int .u8 k2, .int .i64 a2, .int .i64 y2, .slice A2 n2 q2]] w fun e w' => e = .returned (.bool true) ∧ Below w.heap.size w w' := by
  rcases hn with hn | ⟨hn1, hn⟩
  all_goals
    obtain ⟨id, m, c, r, l, h⟩ := x
    unfold Cfg.val at *
    dsimp only at *
    go_enter Try.func7, Try.ntmps7
    go_wp2_with fail
    have C0 := BoxOf.alloc (BoxOf.alloc (BoxOf.new w #[.int .u32 (id : Int), .int .i64 m, .int .i64 c, .int .i64 r, .int .i64 l, .int .i64 h] 24) (.cells #[.int .u8 k1, .int .i64 a1, .int .i64 y1, .slice A1 n1 q1] 32)) (.cells #[.int .u8 k2, .int .i64 a2, .int .i64 y2, .slice A2 n2 q2] 32)
    have A0 := BoxOf.alloc (BoxOf.new' (w.alloc (.cells #[.int .u32 (id : Int), .int .i64 m, .int .i64 c, .int .i64 r, .int .i64 l, .int .i64 h] 24)) (w.heap.size + 1) #[.int .u8 k1, .int .i64 a1, .int .i64 y1, .slice A1 n1 q1] 32 (by simp)) (.cells #[.int .u8 k2, .int .i64 a2, .int .i64 y2, .slice A2 n2 q2] 32)
    have D0 := BoxOf.new' ((w.alloc (.cells #[.int .u32 (id : Int), .int .i64 m, .int .i64 c, .int .i64 r, .int .i64 l, .int .i64 h] 24)).alloc (.cells #[.int .u8 k1, .int .i64 a1, .int .i64 y1, .slice A1 n1 q1] 32)) (w.heap.size + 2) #[.int .u8 k2, .int .i64 a2, .int .i64 y2, .slice A2 n2 q2] 32 (by simp)
    have t0 := Ext.alloc (Ext.alloc (Ext.alloc (Below.refl w.heap.size w) (.cells #[.int .u32 (id : Int), .int .i64 m, .int .i64 c, .int .i64 r, .int .i64 l, .int .i64 h] 24)) (.cells #[.int .u8 k1, .int .i64 a1, .int .i64 y1, .slice A1 n1 q1] 32)) (.cells #[.int .u8 k2, .int .i64 a2, .int .i64 y2, .slice A2 n2 q2] 32)
    have x0 := C0.cell
    refine (spalive_any _).mono ?_
    rintro e w1 ⟨rfl, b1⟩
    have C1 := C0.next b1
    have A1 := A0.next b1
    have D1 := D0.next b1
    have t1 := Ext.trans t0 b1
    clear x0
    have x1 := C1.cell
    have y1 := A1.cell
    have z1 := D1.cell
    clear C0 A0 D0 t0 b1
    go_wp2
    go_ret
    exact ⟨rfl, t1⟩

set_option maxRecDepth 100000 in
theorem all_no1a (x : Cfg) (k1 a1 y1 k2 a2 y2 : Int) (A1 A2 : Option Addr) (n1 q1 n2 q2 : Nat) (hn1 : (n1 : Int) ≤ 5000) (hn2 : (n2 : Int) ≤ 5000) (E : Int) (hE : (E != 0) = true) (k1' : ∀ W, Calls Try.prog 14 #[x.val, .agg #[.int .u8 k1, .int .i64 a1, .int .i64 y1, .slice A1 n1 q1]] W fun e w' => e = .returned (.tuple #[.slice none 0 0, .int .i64 E]) ∧ Below W.heap.size W w') (k2' : ∀ W, Calls Try.prog 14 #[x.val, .agg #[.int .u8 k2, .int .i64 a2, .int .i64 y2, .slice A2 n2 q2]] W fun e w' => ∃ v2 F, e = .returned (.tuple #[v2, .int .i64 F]) ∧ Below W.heap.size W w') (k3' : ∀ W, Calls Try.prog 15 #[x.val, .agg #[.int .u8 k1, .int .i64 a1, .int .i64 y1, .slice A1 n1 q1], .agg #[.int .u8 k2, .int .i64 a2, .int .i64 y2, .slice A2 n2 q2]] W fun e w' => e = .returned (.tuple #[.bool false, .int .i64 E]) ∧ Below W.heap.size W w') (w : World) : Calls Try.prog 7 #[x.val, .agg #[.int .u8 k1, .int .i64 a1, .int .i64 y1, .slice A1 n1 q1], .agg #[.int .u8 k2, .int .i64 a2, .int .i64 y2, .slice A2 n2 q2]] w fun e w' => e = .returned (.bool true) ∧ Below w.heap.size w w' := by
  have K1 := Lib.hid k1'
  have K2 := Lib.hid k2'
  have K3 := Lib.hid k3'
  clear k1' k2' k3'
  obtain ⟨id, m, c, r, l, h⟩ := x
  unfold Cfg.val at *
  dsimp only at *
  go_enter Try.func7, Try.ntmps7
  go_wp2_with fail
  have C0 := BoxOf.alloc (BoxOf.alloc (BoxOf.new w #[.int .u32 (id : Int), .int .i64 m, .int .i64 c, .int .i64 r, .int .i64 l, .int .i64 h] 24) (.cells #[.int .u8 k1, .int .i64 a1, .int .i64 y1, .slice A1 n1 q1] 32)) (.cells #[.int .u8 k2, .int .i64 a2, .int .i64 y2, .slice A2 n2 q2] 32)
  have A0 := BoxOf.alloc (BoxOf.new' (w.alloc (.cells #[.int .u32 (id : Int), .int .i64 m, .int .i64 c, .int .i64 r, .int .i64 l, .int .i64 h] 24)) (w.heap.size + 1) #[.int .u8 k1, .int .i64 a1, .int .i64 y1, .slice A1 n1 q1] 32 (by simp)) (.cells #[.int .u8 k2, .int .i64 a2, .int .i64 y2, .slice A2 n2 q2] 32)
  have D0 := BoxOf.new' ((w.alloc (.cells #[.int .u32 (id : Int), .int .i64 m, .int .i64 c, .int .i64 r, .int .i64 l, .int .i64 h] 24)).alloc (.cells #[.int .u8 k1, .int .i64 a1, .int .i64 y1, .slice A1 n1 q1] 32)) (w.heap.size + 2) #[.int .u8 k2, .int .i64 a2, .int .i64 y2, .slice A2 n2 q2] 32 (by simp)
  have t0 := Ext.alloc (Ext.alloc (Ext.alloc (Below.refl w.heap.size w) (.cells #[.int .u32 (id : Int), .int .i64 m, .int .i64 c, .int .i64 r, .int .i64 l, .int .i64 h] 24)) (.cells #[.int .u8 k1, .int .i64 a1, .int .i64 y1, .slice A1 n1 q1] 32)) (.cells #[.int .u8 k2, .int .i64 a2, .int .i64 y2, .slice A2 n2 q2] 32)
  have x0 := C0.cell
  refine (spalive_any _).mono ?_
  rintro e w1 ⟨rfl, b1⟩
  have C1 := C0.next b1
  have A1 := A0.next b1
  have D1 := D0.next b1
  have t1 := Ext.trans t0 b1
  clear x0
  have x1 := C1.cell
  have y1 := A1.cell
  have z1 := D1.cell
  clear C0 A0 D0 t0 b1
  go_wp2_with fail
  refine (K1.out _).mono ?_
  rintro e w2 ⟨rfl, b2⟩
  have C2 := C1.next b2
  have A2 := A1.next b2
  have D2 := D1.next b2
  have t2 := Ext.trans t1 b2
  clear x1
  have x2 := C2.cell
  have y2 := A2.cell
  have z2 := D2.cell
  clear C1 A1 D1 t1 b2
  try clear y1 z1
  go_wp2_with fail
  refine (K2.out _).mono ?_
  rintro e w3 ⟨v2, F, rfl, b3⟩
  have C3 := C2.next b3
  have A3 := A2.next b3
  have D3 := D2.next b3
  have t3 := Ext.trans t2 b3
  clear x2
  have x3 := C3.cell
  have y3 := A3.cell
  have z3 := D3.cell
  clear C2 A2 D2 t2 b3
  clear y2 z2
  go_wp2_with fail
  refine (K3.out _).mono ?_
  rintro e w4 ⟨rfl, b4⟩
  have C4 := C3.next b4
  have A4 := A3.next b4
  have D4 := D3.next b4
  have t4 := Ext.trans t3 b4
  clear x3
  have x4 := C4.cell
  have y4 := A4.cell
  have z4 := D4.cell
  clear C3 A3 D3 t3 b4
  go_wp2
  go_ret
  exact ⟨rfl, t4⟩

set_option maxRecDepth 100000 in
theorem all_no2 (x : Cfg) (k1 a1 y1 k2 a2 y2 : Int) (A1 A2 : Option Addr) (n1 q1 n2 q2 : Nat) (hn1 : (n1 : Int) ≤ 5000) (hn2 : (n2 : Int) ≤ 5000) (E : Int) (hE : (E != 0) = true) (hE0 : (E == 0) = false) (N1 : Nat) (k1' : ∀ W, Calls Try.prog 14 #[x.val, .agg #[.int .u8 k1, .int .i64 a1, .int .i64 y1, .slice A1 n1 q1]] W fun e w' => ∃ v, e = .returned (.tuple #[v, .int .i64 0]) ∧ w'.ownsRow (W.heap.size + 2) 3 1 v N1 (seqI a1 N1) ∧ Below W.heap.size W w') (k2' : ∀ W, Calls Try.prog 14 #[x.val, .agg #[.int .u8 k2, .int .i64 a2, .int .i64 y2, .slice A2 n2 q2]] W fun e w' => e = .returned (.tuple #[.slice none 0 0, .int .i64 E]) ∧ Below W.heap.size W w') (k3' : ∀ W, Calls Try.prog 15 #[x.val, .agg #[.int .u8 k1, .int .i64 a1, .int .i64 y1, .slice A1 n1 q1], .agg #[.int .u8 k2, .int .i64 a2, .int .i64 y2, .slice A2 n2 q2]] W fun e w' => e = .returned (.tuple #[.bool false, .int .i64 E]) ∧ Below W.heap.size W w') (w : World) : Calls Try.prog 7 #[x.val, .agg #[.int .u8 k1, .int .i64 a1, .int .i64 y1, .slice A1 n1 q1], .agg #[.int .u8 k2, .int .i64 a2, .int .i64 y2, .slice A2 n2 q2]] w fun e w' => e = .returned (.bool true) ∧ Below w.heap.size w w' := by
  have K1 := Lib.hid k1'
  have K2 := Lib.hid k2'
  have K3 := Lib.hid k3'
  clear k1' k2' k3'
  obtain ⟨id, m, c, r, l, h⟩ := x
  unfold Cfg.val at *
  dsimp only at *
  go_enter Try.func7, Try.ntmps7
  go_wp2_with fail
  have C0 := BoxOf.alloc (BoxOf.alloc (BoxOf.new w #[.int .u32 (id : Int), .int .i64 m, .int .i64 c, .int .i64 r, .int .i64 l, .int .i64 h] 24) (.cells #[.int .u8 k1, .int .i64 a1, .int .i64 y1, .slice A1 n1 q1] 32)) (.cells #[.int .u8 k2, .int .i64 a2, .int .i64 y2, .slice A2 n2 q2] 32)
  have A0 := BoxOf.alloc (BoxOf.new' (w.alloc (.cells #[.int .u32 (id : Int), .int .i64 m, .int .i64 c, .int .i64 r, .int .i64 l, .int .i64 h] 24)) (w.heap.size + 1) #[.int .u8 k1, .int .i64 a1, .int .i64 y1, .slice A1 n1 q1] 32 (by simp)) (.cells #[.int .u8 k2, .int .i64 a2, .int .i64 y2, .slice A2 n2 q2] 32)
  have D0 := BoxOf.new' ((w.alloc (.cells #[.int .u32 (id : Int), .int .i64 m, .int .i64 c, .int .i64 r, .int .i64 l, .int .i64 h] 24)).alloc (.cells #[.int .u8 k1, .int .i64 a1, .int .i64 y1, .slice A1 n1 q1] 32)) (w.heap.size + 2) #[.int .u8 k2, .int .i64 a2, .int .i64 y2, .slice A2 n2 q2] 32 (by simp)
  have t0 := Ext.alloc (Ext.alloc (Ext.alloc (Below.refl w.heap.size w) (.cells #[.int .u32 (id : Int), .int .i64 m, .int .i64 c, .int .i64 r, .int .i64 l, .int .i64 h] 24)) (.cells #[.int .u8 k1, .int .i64 a1, .int .i64 y1, .slice A1 n1 q1] 32)) (.cells #[.int .u8 k2, .int .i64 a2, .int .i64 y2, .slice A2 n2 q2] 32)
  have x0 := C0.cell
  refine (spalive_any _).mono ?_
  rintro e w1 ⟨rfl, b1⟩
  have C1 := C0.next b1
  have A1 := A0.next b1
  have D1 := D0.next b1
  have t1 := Ext.trans t0 b1
  clear x0
  have x1 := C1.cell
  have y1 := A1.cell
  have z1 := D1.cell
  clear C0 A0 D0 t0 b1
  go_wp2_with fail
  refine (K1.out _).mono ?_
  rintro e w2 ⟨v1, rfl, _, b2⟩
  have C2 := C1.next b2
  have A2 := A1.next b2
  have D2 := D1.next b2
  have t2 := Ext.trans t1 b2
  clear x1
  have x2 := C2.cell
  have y2 := A2.cell
  have z2 := D2.cell
  clear C1 A1 D1 t1 b2
  clear y1 z1
  go_wp2_with fail
  refine (K2.out _).mono ?_
  rintro e w3 ⟨rfl, b3⟩
  have C3 := C2.next b3
  have A3 := A2.next b3
  have D3 := D2.next b3
  have t3 := Ext.trans t2 b3
  clear x2
  have x3 := C3.cell
  have y3 := A3.cell
  have z3 := D3.cell
  clear C2 A2 D2 t2 b3
  try clear y2 z2
  go_wp2_with fail
  refine (K3.out _).mono ?_
  rintro e w4 ⟨rfl, b4⟩
  have C4 := C3.next b4
  have A4 := A3.next b4
  have D4 := D3.next b4
  have t4 := Ext.trans t3 b4
  clear x3
  have x4 := C4.cell
  have y4 := A4.cell
  have z4 := D4.cell
  clear C3 A3 D3 t3 b4
  try clear y3 z3
  go_wp2
  go_ret
  exact ⟨rfl, t4⟩
end Go.Proofs.Ytmoaflnggcbhkaa
