/- Layer 7 (turn): chunks go round the members, and so does the parity. -/
import Derived.Test.YtdeffbhkmmppmaaTurnLaws2
namespace Go.Proofs.Ytdeffbhkmmppmaa
open Go.RowKit
set_option linter.unusedSimpArgs false

set_option maxRecDepth 100000 in
theorem walks_no (x : Cfg) (b E : Int) (hE : (E != 0) = true) (k1 : ∀ W, Calls Try.prog 9 #[x.val, .int .i64 b] W fun e' w' => e' = .returned (.tuple #[.agg #[.int .i64 (0), .int .i64 (0), .int .i64 (0)], .int .i64 E]) ∧ Below W.heap.size W w') (w : World) :
    Calls Try.prog 3 #[x.val, .int .i64 b] w fun e w' => e = .returned (.bool true) ∧ Below w.heap.size w w' := by
  have K1 := Lib.hid k1
  clear k1
  obtain ⟨id, m, c, r, l, h⟩ := x
  unfold Cfg.val at *
  dsimp only at *
  go_enter Try.func3, Try.ntmps3
  go_wp2_with fail
  have A0 := BoxOf.new w #[.int .u32 (id : Int), .int .i64 m, .int .i64 c, .int .i64 r, .int .i64 l, .int .i64 h] 24
  have t0 := Ext.alloc (Below.refl w.heap.size w) (.cells #[.int .u32 (id : Int), .int .i64 m, .int .i64 c, .int .i64 r, .int .i64 l, .int .i64 h] 24)
  refine (talive_any _).mono ?_
  rintro e' w1 ⟨rfl, b1⟩
  have A1 := A0.next b1
  have t1 := Ext.trans t0 b1
  have x1 := A1.cell
  clear A0 t0 b1
  go_wp2_with fail
  refine (K1.out _).mono ?_
  rintro e' w2 ⟨rfl, b2⟩
  have t2 := Ext.alloc (Ext.trans t1 b2) (.cells #[.int .i64 (0), .int .i64 (0), .int .i64 (0)] 27)
  go_wp2
  go_ret
  exact ⟨rfl, t2⟩

set_option maxRecDepth 100000 in
theorem walks_last (x : Cfg) (b sp sq sv : Int) (hmc : 3 ≤ x.m ∧ x.m ≤ 16 ∧ 1 ≤ x.c ∧ x.c ≤ 8) (hb : 0 ≤ b ∧ b ≤ 960) (hp : 0 ≤ sp ∧ sp ≤ 64) (hv : 0 ≤ sv ∧ sv < x.m) (hq : sv = b / x.c % x.m) (hpc : sp % x.c = b % x.c)
    (k1 : ∀ W, Calls Try.prog 9 #[x.val, .int .i64 b] W fun e' w' => e' = .returned (.tuple #[.agg #[.int .i64 (sp), .int .i64 (sq), .int .i64 (sv)], .int .i64 0]) ∧ Below W.heap.size W w')
    (k2 : ∀ W, Calls Try.prog 9 #[x.val, .int .i64 (b + 1)] W fun e' w' => e' = .returned (.tuple #[.agg #[.int .i64 (0), .int .i64 (0), .int .i64 (0)], .int .i64 2]) ∧ Below W.heap.size W w')
    (k3 : ∀ W, Calls Try.prog 10 #[x.val] W fun e' w' => e' = .returned (.tuple #[.int .i64 (b + 1), .int .i64 0]) ∧ Below W.heap.size W w') (w : World) :
    Calls Try.prog 3 #[x.val, .int .i64 b] w fun e w' => e = .returned (.bool true) ∧ Below w.heap.size w w' := by
  have K3 := Lib.hid k3
  clear k3
  have K1 := Lib.hid k1
  have K2 := Lib.hid k2
  clear k1 k2
  obtain ⟨id, m, c, r, l, h⟩ := x
  unfold Cfg.val at *
  dsimp only at *
  obtain ⟨hm1, hm2, hc1, hc2⟩ := hmc
  obtain ⟨hb1, hb2⟩ := hb
  obtain ⟨hp1, hp2⟩ := hp
  have f1 : (c == 0) = false := by simp; omega
  have f2 : (m == 0) = false := by simp; omega
  have f3 : ¬ c = 0 := by omega
  have f4 : ¬ m = 0 := by omega
  have q1 : b.tdiv c = b / c := Int.tdiv_eq_ediv_of_nonneg hb1
  have q2 : IntKind.i64.wrap (b / c) = b / c := i64_fit (by have := div_small (b := c) hb1 hb2 (by omega); omega)
  have q3 : (b / c).tmod m = sv := by rw [Int.tmod_eq_emod_of_nonneg (div_small (b := c) hb1 hb2 (by omega)).1]; exact hq.symm
  have q4 : sp.tmod c = b % c := by rw [Int.tmod_eq_emod_of_nonneg hp1]; exact hpc
  have q5 : b.tmod c = b % c := Int.tmod_eq_emod_of_nonneg hb1
  have F1 := Lib.hid q1
  have F2 := Lib.hid q2
  have F3 := Lib.hid q3
  have F4 := Lib.hid q4
  have F5 := Lib.hid q5
  clear q1 q2 q3 q4 q5 hq hpc
  have v0 : 0 ≤ sv ∧ sv < m := hv
  obtain ⟨v1, v2⟩ := v0
  clear hv
  go_enter Try.func3, Try.ntmps3
  go_wp2_with fail
  have A0 := BoxOf.new w #[.int .u32 (id : Int), .int .i64 m, .int .i64 c, .int .i64 r, .int .i64 l, .int .i64 h] 24
  have t0 := Ext.alloc (Below.refl w.heap.size w) (.cells #[.int .u32 (id : Int), .int .i64 m, .int .i64 c, .int .i64 r, .int .i64 l, .int .i64 h] 24)
  refine (talive_any _).mono ?_
  rintro e' w1 ⟨rfl, b1⟩
  have A1 := A0.next b1
  have t1 := Ext.trans t0 b1
  have x1 := A1.cell
  clear A0 t0 b1
  go_wp2_with fail
  refine (K1.out _).mono ?_
  rintro e' w2 ⟨rfl, b2⟩
  have A2 := (A1.next b2).alloc (.cells #[.int .i64 (sp), .int .i64 (sq), .int .i64 (sv)] 27)
  have B2 := BoxOf.new w2 #[.int .i64 (sp), .int .i64 (sq), .int .i64 (sv)] 27
  have t2 := Ext.alloc (Ext.trans t1 b2) (.cells #[.int .i64 (sp), .int .i64 (sq), .int .i64 (sv)] 27)
  clear A1 x1 t1 b2
  go_wp2_with fail
  generalize w2.alloc (.cells #[.int .i64 (sp), .int .i64 (sq), .int .i64 (sv)] 27) = w3 at A2 B2 t2 ⊢
  have x2 := A2.cell
  have y2 := B2.cell
  have q1 := F1.out
  have q2 := F2.out
  have q3 := F3.out
  have q4 := F4.out
  have q5 := F5.out
  go_quiet (fail)
  clear q1 q2 q3 q4 q5 x2 y2
  have A4 := A2.drewN nq
  have B4 := B2.drewN nq
  have t4 := below_drewN' t2 nq
  generalize w3.drewN nq = w4 at A4 B4 t4 ⊢
  clear A2 B2 t2 w3
  have x4 := A4.cell
  go_wp2_with fail
  refine (K2.out _).mono ?_
  rintro e' w5 ⟨rfl, b5⟩
  have A5 := (A4.next b5).alloc (.cells #[.int .i64 (0), .int .i64 (0), .int .i64 (0)] 27)
  have B5 := (B4.next b5).alloc (.cells #[.int .i64 (0), .int .i64 (0), .int .i64 (0)] 27)
  have D5 := BoxOf.new w5 #[.int .i64 (0), .int .i64 (0), .int .i64 (0)] 27
  have t5 := Ext.alloc (Ext.trans t4 b5) (.cells #[.int .i64 (0), .int .i64 (0), .int .i64 (0)] 27)
  have x5 := (A4.next b5).cell
  have y5 := (B4.next b5).cell
  have l5 := (A4.next b5).lt
  have m5 := (B4.next b5).lt
  clear A4 B4 x4 t4 b5
  go_wp2_with fail
  refine (K3.out _).mono ?_
  rintro e' w6 ⟨rfl, b6⟩
  have t6 := Ext.trans t5 b6
  go_wp2
  go_ret
  exact ⟨rfl, t6⟩

set_option maxRecDepth 100000 in
theorem walks_turn (x : Cfg) (b sp sq sv tp tq tv : Int) (hmc : 3 ≤ x.m ∧ x.m ≤ 16 ∧ 1 ≤ x.c ∧ x.c ≤ 8) (hb : 0 ≤ b ∧ b ≤ 960) (hp : 0 ≤ sp ∧ sp ≤ 64) (hv : 0 ≤ sv ∧ sv < x.m) (hq : sv = b / x.c % x.m) (hpc : sp % x.c = b % x.c)
    (k1 : ∀ W, Calls Try.prog 9 #[x.val, .int .i64 b] W fun e' w' => e' = .returned (.tuple #[.agg #[.int .i64 (sp), .int .i64 (sq), .int .i64 (sv)], .int .i64 0]) ∧ Below W.heap.size W w')
    (k2 : ∀ W, Calls Try.prog 9 #[x.val, .int .i64 (b + 1)] W fun e' w' => e' = .returned (.tuple #[.agg #[.int .i64 (tp), .int .i64 (tq), .int .i64 (tv)], .int .i64 0]) ∧ Below W.heap.size W w')
    (h0 : (b + 1) % x.c = 0) (ht : tv = (sv + 1) % x.m) (w : World) :
    Calls Try.prog 3 #[x.val, .int .i64 b] w fun e w' => e = .returned (.bool true) ∧ Below w.heap.size w w' := by
  have HT := Lib.hid ht
  have h0' : ((b + 1) % x.c == 0) = true := beq_iff_eq.2 h0
  have H0 := Lib.hid h0'
  clear ht h0 h0'
  have K1 := Lib.hid k1
  have K2 := Lib.hid k2
  clear k1 k2
  obtain ⟨id, m, c, r, l, h⟩ := x
  unfold Cfg.val at *
  dsimp only at *
  obtain ⟨hm1, hm2, hc1, hc2⟩ := hmc
  obtain ⟨hb1, hb2⟩ := hb
  obtain ⟨hp1, hp2⟩ := hp
  have f1 : (c == 0) = false := by simp; omega
  have f2 : (m == 0) = false := by simp; omega
  have f3 : ¬ c = 0 := by omega
  have f4 : ¬ m = 0 := by omega
  have q1 : b.tdiv c = b / c := Int.tdiv_eq_ediv_of_nonneg hb1
  have q2 : IntKind.i64.wrap (b / c) = b / c := i64_fit (by have := div_small (b := c) hb1 hb2 (by omega); omega)
  have q3 : (b / c).tmod m = sv := by rw [Int.tmod_eq_emod_of_nonneg (div_small (b := c) hb1 hb2 (by omega)).1]; exact hq.symm
  have q4 : sp.tmod c = b % c := by rw [Int.tmod_eq_emod_of_nonneg hp1]; exact hpc
  have q5 : b.tmod c = b % c := Int.tmod_eq_emod_of_nonneg hb1
  have F1 := Lib.hid q1
  have F2 := Lib.hid q2
  have F3 := Lib.hid q3
  have F4 := Lib.hid q4
  have F5 := Lib.hid q5
  clear q1 q2 q3 q4 q5 hq hpc
  have v0 : 0 ≤ sv ∧ sv < m := hv
  obtain ⟨v1, v2⟩ := v0
  clear hv
  go_enter Try.func3, Try.ntmps3
  go_wp2_with fail
  have A0 := BoxOf.new w #[.int .u32 (id : Int), .int .i64 m, .int .i64 c, .int .i64 r, .int .i64 l, .int .i64 h] 24
  have t0 := Ext.alloc (Below.refl w.heap.size w) (.cells #[.int .u32 (id : Int), .int .i64 m, .int .i64 c, .int .i64 r, .int .i64 l, .int .i64 h] 24)
  refine (talive_any _).mono ?_
  rintro e' w1 ⟨rfl, b1⟩
  have A1 := A0.next b1
  have t1 := Ext.trans t0 b1
  have x1 := A1.cell
  clear A0 t0 b1
  go_wp2_with fail
  refine (K1.out _).mono ?_
  rintro e' w2 ⟨rfl, b2⟩
  have A2 := (A1.next b2).alloc (.cells #[.int .i64 (sp), .int .i64 (sq), .int .i64 (sv)] 27)
  have B2 := BoxOf.new w2 #[.int .i64 (sp), .int .i64 (sq), .int .i64 (sv)] 27
  have t2 := Ext.alloc (Ext.trans t1 b2) (.cells #[.int .i64 (sp), .int .i64 (sq), .int .i64 (sv)] 27)
  clear A1 x1 t1 b2
  go_wp2_with fail
  generalize w2.alloc (.cells #[.int .i64 (sp), .int .i64 (sq), .int .i64 (sv)] 27) = w3 at A2 B2 t2 ⊢
  have x2 := A2.cell
  have y2 := B2.cell
  have q1 := F1.out
  have q2 := F2.out
  have q3 := F3.out
  have q4 := F4.out
  have q5 := F5.out
  go_quiet (fail)
  clear q1 q2 q3 q4 q5 x2 y2
  have A4 := A2.drewN nq
  have B4 := B2.drewN nq
  have t4 := below_drewN' t2 nq
  generalize w3.drewN nq = w4 at A4 B4 t4 ⊢
  clear A2 B2 t2 w3
  have x4 := A4.cell
  go_wp2_with fail
  refine (K2.out _).mono ?_
  rintro e' w5 ⟨rfl, b5⟩
  have A5 := (A4.next b5).alloc (.cells #[.int .i64 (tp), .int .i64 (tq), .int .i64 (tv)] 27)
  have B5 := (B4.next b5).alloc (.cells #[.int .i64 (tp), .int .i64 (tq), .int .i64 (tv)] 27)
  have D5 := BoxOf.new w5 #[.int .i64 (tp), .int .i64 (tq), .int .i64 (tv)] 27
  have t5 := Ext.alloc (Ext.trans t4 b5) (.cells #[.int .i64 (tp), .int .i64 (tq), .int .i64 (tv)] 27)
  have x5 := (A4.next b5).cell
  have y5 := (B4.next b5).cell
  have l5 := (A4.next b5).lt
  have m5 := (B4.next b5).lt
  clear A4 B4 x4 t4 b5
  have h0 := H0.out
  go_wp2_with fail
  generalize w5.alloc (.cells #[.int .i64 (tp), .int .i64 (tq), .int .i64 (tv)] 27) = w6 at A5 B5 D5 t5 ⊢
  clear x5 y5 l5 m5 h0
  have x6 := A5.cell
  have y6 := B5.cell
  have z6 := D5.cell
  have q2 : IntKind.i64.wrap (sv + 1) = sv + 1 := i64_fit (by omega)
  have q3 : (sv + 1).tmod m = tv := by rw [Int.tmod_eq_emod_of_nonneg (by omega)]; exact HT.out.symm
  have f4 : ¬ m = 0 := by omega
  go_quiet (fail)
  clear q2 q3 x6 y6 z6
  have t7 := below_drewN' t5 nq
  go_wp2
  go_ret
  exact ⟨rfl, t7⟩

set_option maxRecDepth 100000 in
theorem walks_same (x : Cfg) (b sp sq sv : Int) (hmc : 3 ≤ x.m ∧ x.m ≤ 16 ∧ 1 ≤ x.c ∧ x.c ≤ 8) (hb : 0 ≤ b ∧ b ≤ 960) (hp : 0 ≤ sp ∧ sp ≤ 64) (hv : 0 ≤ sv ∧ sv < x.m) (hq : sv = b / x.c % x.m) (hpc : sp % x.c = b % x.c)
    (k1 : ∀ W, Calls Try.prog 9 #[x.val, .int .i64 b] W fun e' w' => e' = .returned (.tuple #[.agg #[.int .i64 (sp), .int .i64 (sq), .int .i64 (sv)], .int .i64 0]) ∧ Below W.heap.size W w')
    (k2 : ∀ W, Calls Try.prog 9 #[x.val, .int .i64 (b + 1)] W fun e' w' => e' = .returned (.tuple #[.agg #[.int .i64 (sp + 1), .int .i64 (sq), .int .i64 (sv)], .int .i64 0]) ∧ Below W.heap.size W w')
    (h0 : (b + 1) % x.c ≠ 0) (w : World) :
    Calls Try.prog 3 #[x.val, .int .i64 b] w fun e w' => e = .returned (.bool true) ∧ Below w.heap.size w w' := by
  have h0' : ((b + 1) % x.c == 0) = false := beq_eq_false_iff_ne.2 h0
  have H0 := Lib.hid h0'
  clear h0 h0'
  have K1 := Lib.hid k1
  have K2 := Lib.hid k2
  clear k1 k2
  obtain ⟨id, m, c, r, l, h⟩ := x
  unfold Cfg.val at *
  dsimp only at *
  obtain ⟨hm1, hm2, hc1, hc2⟩ := hmc
  obtain ⟨hb1, hb2⟩ := hb
  obtain ⟨hp1, hp2⟩ := hp
  have f1 : (c == 0) = false := by simp; omega
  have f2 : (m == 0) = false := by simp; omega
  have f3 : ¬ c = 0 := by omega
  have f4 : ¬ m = 0 := by omega
  have q1 : b.tdiv c = b / c := Int.tdiv_eq_ediv_of_nonneg hb1
  have q2 : IntKind.i64.wrap (b / c) = b / c := i64_fit (by have := div_small (b := c) hb1 hb2 (by omega); omega)
  have q3 : (b / c).tmod m = sv := by rw [Int.tmod_eq_emod_of_nonneg (div_small (b := c) hb1 hb2 (by omega)).1]; exact hq.symm
  have q4 : sp.tmod c = b % c := by rw [Int.tmod_eq_emod_of_nonneg hp1]; exact hpc
  have q5 : b.tmod c = b % c := Int.tmod_eq_emod_of_nonneg hb1
  have F1 := Lib.hid q1
  have F2 := Lib.hid q2
  have F3 := Lib.hid q3
  have F4 := Lib.hid q4
  have F5 := Lib.hid q5
  clear q1 q2 q3 q4 q5 hq hpc
  have v0 : 0 ≤ sv ∧ sv < m := hv
  obtain ⟨v1, v2⟩ := v0
  clear hv
  go_enter Try.func3, Try.ntmps3
  go_wp2_with fail
  have A0 := BoxOf.new w #[.int .u32 (id : Int), .int .i64 m, .int .i64 c, .int .i64 r, .int .i64 l, .int .i64 h] 24
  have t0 := Ext.alloc (Below.refl w.heap.size w) (.cells #[.int .u32 (id : Int), .int .i64 m, .int .i64 c, .int .i64 r, .int .i64 l, .int .i64 h] 24)
  refine (talive_any _).mono ?_
  rintro e' w1 ⟨rfl, b1⟩
  have A1 := A0.next b1
  have t1 := Ext.trans t0 b1
  have x1 := A1.cell
  clear A0 t0 b1
  go_wp2_with fail
  refine (K1.out _).mono ?_
  rintro e' w2 ⟨rfl, b2⟩
  have A2 := (A1.next b2).alloc (.cells #[.int .i64 (sp), .int .i64 (sq), .int .i64 (sv)] 27)
  have B2 := BoxOf.new w2 #[.int .i64 (sp), .int .i64 (sq), .int .i64 (sv)] 27
  have t2 := Ext.alloc (Ext.trans t1 b2) (.cells #[.int .i64 (sp), .int .i64 (sq), .int .i64 (sv)] 27)
  clear A1 x1 t1 b2
  go_wp2_with fail
  generalize w2.alloc (.cells #[.int .i64 (sp), .int .i64 (sq), .int .i64 (sv)] 27) = w3 at A2 B2 t2 ⊢
  have x2 := A2.cell
  have y2 := B2.cell
  have q1 := F1.out
  have q2 := F2.out
  have q3 := F3.out
  have q4 := F4.out
  have q5 := F5.out
  go_quiet (fail)
  clear q1 q2 q3 q4 q5 x2 y2
  have A4 := A2.drewN nq
  have B4 := B2.drewN nq
  have t4 := below_drewN' t2 nq
  generalize w3.drewN nq = w4 at A4 B4 t4 ⊢
  clear A2 B2 t2 w3
  have x4 := A4.cell
  go_wp2_with fail
  refine (K2.out _).mono ?_
  rintro e' w5 ⟨rfl, b5⟩
  have A5 := (A4.next b5).alloc (.cells #[.int .i64 (sp + 1), .int .i64 (sq), .int .i64 (sv)] 27)
  have B5 := (B4.next b5).alloc (.cells #[.int .i64 (sp + 1), .int .i64 (sq), .int .i64 (sv)] 27)
  have D5 := BoxOf.new w5 #[.int .i64 (sp + 1), .int .i64 (sq), .int .i64 (sv)] 27
  have t5 := Ext.alloc (Ext.trans t4 b5) (.cells #[.int .i64 (sp + 1), .int .i64 (sq), .int .i64 (sv)] 27)
  have x5 := (A4.next b5).cell
  have y5 := (B4.next b5).cell
  have l5 := (A4.next b5).lt
  have m5 := (B4.next b5).lt
  clear A4 B4 x4 t4 b5
  have h0 := H0.out
  have z5 := D5.cell
  go_wp2
  go_ret
  exact ⟨rfl, t5⟩
end Go.Proofs.Ytdeffbhkmmppmaa
