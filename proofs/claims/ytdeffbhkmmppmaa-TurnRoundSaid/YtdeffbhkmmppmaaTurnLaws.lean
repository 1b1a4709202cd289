/- Layer 7 (turn): the program beside the document. -/
import Derived.Test.YtdeffbhkmmppmaaTurnRef3
namespace Go.Proofs.Ytdeffbhkmmppmaa
open Go.RowKit
set_option linter.unusedSimpArgs false

theorem cfg_open {w : World} {cs : List Value} {y : (Ty.st (.prod .u32 (.prod .int (.prod .int (.prod .int (.prod .int (.prod .int .unit))))))).T} (h : Reads w (Ty.st (.prod .u32 (.prod .int (.prod .int (.prod .int (.prod .int (.prod .int .unit))))))) y cs) :
    ∃ x : Cfg, Value.agg cs.toArray = x.val ∧ x.id < 2 ^ 32 ∧ IsInt x.m ∧ IsInt x.c ∧ IsInt x.r ∧ IsInt x.l ∧ IsInt x.h := by
  obtain ⟨id, m, c, r, l, h', u⟩ := y
  obtain ⟨c0, d0, rfl, r0, h⟩ := reads_prod.1 (reads_st.1 h)
  obtain ⟨c1, d1, rfl, r1, h⟩ := reads_prod.1 h
  obtain ⟨c2, d2, rfl, r2, h⟩ := reads_prod.1 h
  obtain ⟨c3, d3, rfl, r3, h⟩ := reads_prod.1 h
  obtain ⟨c4, d4, rfl, r4, h⟩ := reads_prod.1 h
  obtain ⟨c5, d5, rfl, r5, h⟩ := reads_prod.1 h
  obtain rfl := reads_unit.1 h
  obtain ⟨rfl, i0⟩ := reads_u32.1 r0
  obtain ⟨rfl, i1⟩ := reads_int.1 r1
  obtain ⟨rfl, i2⟩ := reads_int.1 r2
  obtain ⟨rfl, i3⟩ := reads_int.1 r3
  obtain ⟨rfl, i4⟩ := reads_int.1 r4
  obtain ⟨rfl, i5⟩ := reads_int.1 r5
  exact ⟨⟨id, m, c, r, l, h'⟩, rfl, i0, i1, i2, i3, i4, i5⟩

theorem n8 : ((8 : Int) != 0) = true := by decide
theorem n2 : ((2 : Int) != 0) = true := by decide

theorem spot_both (x : Cfg) (b : Int) : ∃ p q v e : Int,
    (∀ W, Calls Try.prog 9 #[x.val, .int .i64 b] W fun e' w' => e' = .returned (.tuple #[.agg #[.int .i64 (p), .int .i64 (q), .int .i64 (v)], .int .i64 e]) ∧ Below W.heap.size W w') ∧
    (∀ W, Calls Try.prog 16 #[x.val, .int .i64 b] W fun e' w' => e' = .returned (.tuple #[.agg #[.int .i64 (p), .int .i64 (q), .int .i64 (v)], .int .i64 e]) ∧ Below W.heap.size W w') := by
  by_cases hx : x.Ok
  · rcases (show (b < 0 ∨ (0 ≤ b ∧ x.c * x.r * (x.m - 1) ≤ b)) ∨ (0 ≤ b ∧ b < x.c * x.r * (x.m - 1)) by omega) with h | h
    · exact ⟨0, 0, 0, 2, spot_arg x hx b h, rspot_err x b _ 2 n2 (rblocks_ok x hx) (asked_arg x hx _ _ _ _ (by unfold Off; omega))⟩
    · exact ⟨_, _, _, _, spot_ok x hx b h, rspot_ok x hx b h⟩
  · exact ⟨0, 0, 0, 8, spot_bad x hx b, rspot_err x b _ 8 n8 (rblocks_any x) (asked_bad x hx _ _ _ _)⟩

theorem block_both (x : Cfg) (s o : Int) : ∃ v e : Int,
    (∀ W, Calls Try.prog 12 #[x.val, .int .i64 s, .int .i64 o] W fun e' w' => e' = .returned (.tuple #[.int .i64 v, .int .i64 e]) ∧ Below W.heap.size W w') ∧
    (∀ W, Calls Try.prog 17 #[x.val, .int .i64 s, .int .i64 o] W fun e' w' => e' = .returned (.tuple #[.int .i64 v, .int .i64 e]) ∧ Below W.heap.size W w') := by
  by_cases hx : x.Ok
  · rcases Off.or s (x.c * x.r) o (x.m - 1) with h | ⟨h1, h2, h3, h4⟩
    · obtain ⟨hm1, hm2, _⟩ := Cfg.four hx
      exact ⟨0, 2, block_arg x hx s o h, rblock_err x s o _ 2 n2 (rstripes_ok x hx) (by rw [i64_fit (by omega)]; exact asked_arg x hx _ _ _ _ h)⟩
    · exact ⟨_, _, block_ok x hx s o ⟨h1, h2⟩ ⟨h3, h4⟩, rblock_ok x hx s o ⟨h1, h2⟩ ⟨h3, h4⟩ _ (rat_ok x hx s o ⟨h1, h2⟩ ⟨h3, h4⟩)⟩
  · exact ⟨0, 8, block_bad x hx s o, rblock_err x s o _ 8 n8 (rstripes_any x) (asked_bad x hx _ _ _ _)⟩

theorem parity_both (x : Cfg) (s : Int) : ∃ v e : Int,
    (∀ W, Calls Try.prog 11 #[x.val, .int .i64 s] W fun e' w' => e' = .returned (.tuple #[.int .i64 v, .int .i64 e]) ∧ Below W.heap.size W w') ∧
    (∀ W, Calls Try.prog 18 #[x.val, .int .i64 s] W fun e' w' => e' = .returned (.tuple #[.int .i64 v, .int .i64 e]) ∧ Below W.heap.size W w') := by
  by_cases hx : x.Ok
  · rcases Off.or s (x.c * x.r) 0 1 with h | ⟨h1, h2, h3, h4⟩
    · exact ⟨0, 2, parity_err x s 2 n2 (at_arg x hx s 0 1 h), rparity_err x s _ 2 n2 (rstripes_ok x hx) (asked_arg x hx _ _ _ _ h)⟩
    · exact ⟨_, _, parity_ok x hx s ⟨h1, h2⟩, rparity_ok x hx s ⟨h1, h2⟩⟩
  · exact ⟨0, 8, parity_err x s 8 n8 (at_bad x hx s 0 1), rparity_err x s _ 8 n8 (rstripes_any x) (asked_bad x hx _ _ _ _)⟩

theorem member_both (x : Cfg) (s o : Int) : ∃ v e : Int,
    (∀ W, Calls Try.prog 14 #[x.val, .int .i64 s, .int .i64 o] W fun e' w' => e' = .returned (.tuple #[.int .i64 v, .int .i64 e]) ∧ Below W.heap.size W w') ∧
    (∀ W, Calls Try.prog 19 #[x.val, .int .i64 s, .int .i64 o] W fun e' w' => e' = .returned (.tuple #[.int .i64 v, .int .i64 e]) ∧ Below W.heap.size W w') := by
  by_cases hx : x.Ok
  · rcases Off.or s (x.c * x.r) o x.m with h | ⟨h1, h2, h3, h4⟩
    · exact ⟨0, 2, member_err x s o 2 n2 (at_arg x hx s o _ h), rmember_err x s o _ 2 n2 (rstripes_ok x hx) (asked_arg x hx _ _ _ _ h)⟩
    · refine ⟨_, _, member_ok x hx s o ⟨h1, h2⟩ ⟨h3, h4⟩, rmember_ok x hx s o ⟨h1, h2⟩ ⟨h3, h4⟩ _ ?_⟩
      obtain ⟨hm1, hm2, hc1, hc2, hr1, hr2⟩ := Cfg.four hx
      have hr := row_lt hc1 ⟨h1, h2⟩
      rcases (show o = x.m - 1 ∨ o < x.m - 1 by omega) with h | h
      · subst h
        rw [member_last ⟨hm1, hm2⟩ ⟨hr.1, by omega⟩]
        exact on_par x hx s ⟨h1, h2⟩
      · rw [member_on ⟨hm1, hm2⟩ ⟨hr.1, by omega⟩ ⟨h3, h⟩]
        exact on_low x hx s o ⟨h1, h2⟩ ⟨h3, h⟩
  · exact ⟨0, 8, member_err x s o 8 n8 (at_bad x hx s o _), rmember_err x s o _ 8 n8 (rstripes_any x) (asked_bad x hx _ _ _ _)⟩

theorem slot_both (x : Cfg) (s o : Int) : ∃ v e : Int,
    (∀ W, Calls Try.prog 15 #[x.val, .int .i64 s, .int .i64 o] W fun e' w' => e' = .returned (.tuple #[.int .i64 v, .int .i64 e]) ∧ Below W.heap.size W w') ∧
    (∀ W, Calls Try.prog 20 #[x.val, .int .i64 s, .int .i64 o] W fun e' w' => e' = .returned (.tuple #[.int .i64 v, .int .i64 e]) ∧ Below W.heap.size W w') := by
  by_cases hx : x.Ok
  · rcases Off.or s (x.c * x.r) o x.m with h | ⟨h1, h2, h3, h4⟩
    · exact ⟨0, 2, slot_err x s o 2 n2 (at_arg x hx s o _ h), rslot_err x s o _ 2 n2 (rstripes_ok x hx) (asked_arg x hx _ _ _ _ h)⟩
    · exact ⟨_, _, slot_ok x hx s o ⟨h1, h2⟩ ⟨h3, h4⟩, rslot_ok x hx s o ⟨h1, h2⟩ ⟨h3, h4⟩ _ (in_ok x hx s o ⟨h1, h2⟩ ⟨h3, h4⟩)⟩
  · exact ⟨0, 8, slot_err x s o 8 n8 (at_bad x hx s o _), rslot_err x s o _ 8 n8 (rstripes_any x) (asked_bad x hx _ _ _ _)⟩

set_option maxRecDepth 100000 in
theorem turnTells_walk (w : World) (cs : List Value) (y : (Ty.st (.prod .u32 (.prod .int (.prod .int (.prod .int (.prod .int (.prod .int .unit))))))).T) (h0 : Reads w (Ty.st (.prod .u32 (.prod .int (.prod .int (.prod .int (.prod .int (.prod .int .unit))))))) y cs) (v1 : Value) (b : Ty.int.T) (h1 : Reads w .int b [v1]) (v2 : Value) (s : Ty.int.T) (h2 : Reads w .int s [v2]) (v3 : Value) (o : Ty.int.T) (h3 : Reads w .int o [v3]) (v4 : Value) (mm : Ty.int.T) (h4 : Reads w .int mm [v4]) :
    Calls Try.prog 6 #[.agg cs.toArray, v1, v2, v3, v4] w fun e w' => e = .returned (.bool true) ∧ Below w.heap.size w w' := by
  obtain ⟨x, hx, _⟩ := cfg_open h0
  rw [hx]
  clear hx h0 y
  obtain ⟨rfl, _⟩ := one_int h1
  obtain ⟨rfl, _⟩ := one_int h2
  obtain ⟨rfl, _⟩ := one_int h3
  obtain ⟨rfl, _⟩ := one_int h4
  clear h1 h2 h3 h4
  revert b s o mm
  show ∀ b s o mm : Int, _
  rintro b s o mm - - - -
  obtain ⟨sp, sq, sv, se, k1, k2⟩ := spot_both x b
  obtain ⟨bv, be, k3, k4⟩ := block_both x s o
  obtain ⟨pv, pe, k5, k6⟩ := parity_both x s
  obtain ⟨mv, me, k7, k8⟩ := member_both x s o
  obtain ⟨lv, le', k9, k10⟩ := slot_both x s mm
  have k1 := Lib.hid k1
  have k2 := Lib.hid k2
  have k3 := Lib.hid k3
  have k4 := Lib.hid k4
  have k5 := Lib.hid k5
  have k6 := Lib.hid k6
  have k7 := Lib.hid k7
  have k8 := Lib.hid k8
  have k9 := Lib.hid k9
  have k10 := Lib.hid k10
  obtain ⟨id, m, c, r, l, h⟩ := x
  unfold Cfg.val at *
  dsimp only at *
  go_enter Try.func6, Try.ntmps6
  go_wp2_with fail
  have A0 := BoxOf.new w #[.int .u32 (id : Int), .int .i64 m, .int .i64 c, .int .i64 r, .int .i64 l, .int .i64 h] 24
  have t0 := Ext.alloc (Below.refl w.heap.size w) (.cells #[.int .u32 (id : Int), .int .i64 m, .int .i64 c, .int .i64 r, .int .i64 l, .int .i64 h] 24)
  refine (k1.out _).mono ?_
  rintro e w1 ⟨rfl, b1⟩
  have A1 := (A0.next b1).alloc (.cells #[.int .i64 (sp), .int .i64 (sq), .int .i64 (sv)] 27)
  have B1 := BoxOf.new w1 #[.int .i64 (sp), .int .i64 (sq), .int .i64 (sv)] 27
  have t1 := Ext.alloc (Ext.trans t0 b1) (.cells #[.int .i64 (sp), .int .i64 (sq), .int .i64 (sv)] 27)
  have x1 := (A0.next b1).cell
  have l1 := (A0.next b1).lt
  clear A0 t0 b1
  go_wp2_with fail
  refine (k2.out _).mono ?_
  rintro e w2 ⟨rfl, b2⟩
  have A2 := (A1.next b2).alloc (.cells #[.int .i64 (sp), .int .i64 (sq), .int .i64 (sv)] 27)
  have B2 := (B1.next b2).alloc (.cells #[.int .i64 (sp), .int .i64 (sq), .int .i64 (sv)] 27)
  have D2 := BoxOf.new w2 #[.int .i64 (sp), .int .i64 (sq), .int .i64 (sv)] 27
  have t2 := Ext.alloc (Ext.trans t1 b2) (.cells #[.int .i64 (sp), .int .i64 (sq), .int .i64 (sv)] 27)
  have x2 := (A1.next b2).cell
  have l2 := (A1.next b2).lt
  clear A1 B1 x1 t1 b2
  go_wp2_with fail
  refine (k3.out _).mono ?_
  rintro e w3 ⟨rfl, b3⟩
  have A3 := A2.next b3
  have B3 := B2.next b3
  have D3 := D2.next b3
  have t3 := Ext.trans t2 b3
  have x3 := A3.cell
  clear x2 A2 B2 D2 t2 b3
  go_wp2_with fail
  refine (k4.out _).mono ?_
  rintro e w4 ⟨rfl, b4⟩
  have A4 := A3.next b4
  have B4 := B3.next b4
  have D4 := D3.next b4
  have t4 := Ext.trans t3 b4
  have x4 := A4.cell
  clear x3 A3 B3 D3 t3 b4
  go_wp2_with fail
  refine (k5.out _).mono ?_
  rintro e w5 ⟨rfl, b5⟩
  have A5 := A4.next b5
  have B5 := B4.next b5
  have D5 := D4.next b5
  have t5 := Ext.trans t4 b5
  have x5 := A5.cell
  clear x4 A4 B4 D4 t4 b5
  go_wp2_with fail
  refine (k6.out _).mono ?_
  rintro e w6 ⟨rfl, b6⟩
  have A6 := A5.next b6
  have B6 := B5.next b6
  have D6 := D5.next b6
  have t6 := Ext.trans t5 b6
  have x6 := A6.cell
  clear x5 A5 B5 D5 t5 b6
  go_wp2_with fail
  refine (k7.out _).mono ?_
  rintro e w7 ⟨rfl, b7⟩
  have A7 := A6.next b7
  have B7 := B6.next b7
  have D7 := D6.next b7
  have t7 := Ext.trans t6 b7
  have x7 := A7.cell
  clear x6 A6 B6 D6 t6 b7
  go_wp2_with fail
  refine (k8.out _).mono ?_
  rintro e w8 ⟨rfl, b8⟩
  have A8 := A7.next b8
  have B8 := B7.next b8
  have D8 := D7.next b8
  have t8 := Ext.trans t7 b8
  have x8 := A8.cell
  clear x7 A7 B7 D7 t7 b8
  go_wp2_with fail
  refine (k9.out _).mono ?_
  rintro e w9 ⟨rfl, b9⟩
  have A9 := A8.next b9
  have B9 := B8.next b9
  have D9 := D8.next b9
  have t9 := Ext.trans t8 b9
  have x9 := A9.cell
  clear x8 A8 B8 D8 t8 b9
  go_wp2_with fail
  refine (k10.out _).mono ?_
  rintro e w10 ⟨rfl, b10⟩
  have A10 := A9.next b10
  have B10 := B9.next b10
  have D10 := D9.next b10
  have t10 := Ext.trans t9 b10
  have x10 := A10.cell
  clear x9 A9 B9 D9 t9 b10
  have y10 := B10.cell
  have z10 := D10.cell
  clear x10 A10 B10 D10
  go_wp2
  go_ret
  exact ⟨rfl, t10⟩
end Go.Proofs.Ytdeffbhkmmppmaa
