/- Layer 7 (turn): block, parity, member, slot. -/
import Derived.Test.YtdeffbhkmmppmaaTurn3
namespace Go.Proofs.Ytdeffbhkmmppmaa
open Go.RowKit

set_option maxRecDepth 100000 in
theorem member_err (x : Cfg) (s o E : Int) (hE : (E != 0) = true) (HA : ∀ W, Calls Try.prog 26 #[x.val, .int .i64 s, .int .i64 o, .int .i64 (x.m)] W fun e w' => e = .returned (.tuple #[.agg noRowC, .int .i64 E]) ∧ Below W.heap.size W w') (w : World) :
    Calls Try.prog 14 #[x.val, .int .i64 s, .int .i64 o] w fun e w' => e = .returned (.tuple #[.int .i64 0, .int .i64 E]) ∧ Below w.heap.size w w' := by
  have HS := Lib.hid HA
  clear HA
  obtain ⟨id, m, c, r, l, h⟩ := x
  unfold Cfg.val at *
  dsimp only at *
  go_enter Try.func14, Try.ntmps14
  go_wp2_with fail
  refine (HS.out _).mono ?_
  rintro e w1 ⟨rfl, b1⟩
  have bt := Ext.trans (Ext.alloc (Below.refl w.heap.size w) (.cells #[.int .u32 (id : Int), .int .i64 m, .int .i64 c, .int .i64 r, .int .i64 l, .int .i64 h] 24)) b1
  clear b1
  unfold noRowC
  go_wp2
  go_ret2
  exact ⟨rfl, Ext.alloc bt _⟩
set_option maxRecDepth 100000 in
theorem slot_err (x : Cfg) (s o E : Int) (hE : (E != 0) = true) (HA : ∀ W, Calls Try.prog 26 #[x.val, .int .i64 s, .int .i64 o, .int .i64 (x.m)] W fun e w' => e = .returned (.tuple #[.agg noRowC, .int .i64 E]) ∧ Below W.heap.size W w') (w : World) :
    Calls Try.prog 15 #[x.val, .int .i64 s, .int .i64 o] w fun e w' => e = .returned (.tuple #[.int .i64 0, .int .i64 E]) ∧ Below w.heap.size w w' := by
  have HS := Lib.hid HA
  clear HA
  obtain ⟨id, m, c, r, l, h⟩ := x
  unfold Cfg.val at *
  dsimp only at *
  go_enter Try.func15, Try.ntmps15
  go_wp2_with fail
  refine (HS.out _).mono ?_
  rintro e w1 ⟨rfl, b1⟩
  have bt := Ext.trans (Ext.alloc (Below.refl w.heap.size w) (.cells #[.int .u32 (id : Int), .int .i64 m, .int .i64 c, .int .i64 r, .int .i64 l, .int .i64 h] 24)) b1
  clear b1
  unfold noRowC
  go_wp2
  go_ret2
  exact ⟨rfl, Ext.alloc bt _⟩
set_option maxRecDepth 100000 in
theorem parity_err (x : Cfg) (s E : Int) (hE : (E != 0) = true) (HA : ∀ W, Calls Try.prog 26 #[x.val, .int .i64 s, .int .i64 0, .int .i64 1] W fun e w' => e = .returned (.tuple #[.agg noRowC, .int .i64 E]) ∧ Below W.heap.size W w') (w : World) :
    Calls Try.prog 11 #[x.val, .int .i64 s] w fun e w' => e = .returned (.tuple #[.int .i64 0, .int .i64 E]) ∧ Below w.heap.size w w' := by
  have HS := Lib.hid HA
  clear HA
  obtain ⟨id, m, c, r, l, h⟩ := x
  unfold Cfg.val at *
  dsimp only at *
  go_enter Try.func11, Try.ntmps11
  go_wp2_with fail
  refine (HS.out _).mono ?_
  rintro e w1 ⟨rfl, b1⟩
  have bt := Ext.trans (Ext.alloc (Below.refl w.heap.size w) (.cells #[.int .u32 (id : Int), .int .i64 m, .int .i64 c, .int .i64 r, .int .i64 l, .int .i64 h] 24)) b1
  clear b1
  unfold noRowC
  go_wp2
  go_ret2
  exact ⟨rfl, Ext.alloc bt _⟩

set_option maxRecDepth 100000 in
theorem parity_ok (x : Cfg) (hx : x.Ok) (s : Int) (h1 : 0 ≤ s ∧ s < x.c * x.r) (w : World) :
    Calls Try.prog 11 #[x.val, .int .i64 s] w fun e w' => e = .returned (.tuple #[.int .i64 (x.m - 1 - s / x.c % x.m), .int .i64 0]) ∧ Below w.heap.size w w' := by
  have HA := Lib.hid (at_ok x hx s 0 1 h1 (by omega))
  have hcr := Cfg.cr hx
  have hk0 : 0 ≤ s / x.c := Int.ediv_nonneg h1.1 (by have := hx.1.2.2.1; omega)
  have hk1 : s / x.c ≤ 1000 := by have := Int.ediv_le_self x.c h1.1; omega
  have HP := Lib.hid (parity_any x (s / x.c) ⟨hx.1.1, hx.1.2.1⟩ ⟨hk0, hk1⟩)
  obtain ⟨id, m, c, r, l, h⟩ := x
  unfold Cfg.val rowC rowVal at *
  dsimp only at *
  clear hcr hk0 hk1 hx h1
  generalize s / c = k at *
  go_enter Try.func11, Try.ntmps11
  go_wp2_with fail
  refine (HA.out _).mono ?_
  rintro e w1 ⟨rfl, b1⟩
  have bt := Ext.trans (Ext.alloc (Below.refl w.heap.size w) (.cells #[.int .u32 (id : Int), .int .i64 m, .int .i64 c, .int .i64 r, .int .i64 l, .int .i64 h] 24)) b1
  clear b1
  go_wp2_with fail
  refine (HP.out _).mono ?_
  rintro e w2 ⟨rfl, b2⟩
  go_wp2
  go_ret2
  exact ⟨rfl, Ext.trans (Ext.alloc bt _) b2⟩

set_option maxRecDepth 100000 in
theorem member_ok (x : Cfg) (hx : x.Ok) (s o : Int) (h1 : 0 ≤ s ∧ s < x.c * x.r) (h2 : 0 ≤ o ∧ o < x.m) (w : World) :
    Calls Try.prog 14 #[x.val, .int .i64 s, .int .i64 o] w fun e w' => e = .returned (.tuple #[.int .i64 ((x.m - 1 - s / x.c % x.m + 1 + o) % x.m), .int .i64 0]) ∧ Below w.heap.size w w' := by
  have HA := Lib.hid (at_ok x hx s o x.m h1 h2)
  have hcr := Cfg.cr hx
  have hk0 : 0 ≤ s / x.c := Int.ediv_nonneg h1.1 (by have := hx.1.2.2.1; omega)
  have hk1 : s / x.c ≤ 1000 := by have := Int.ediv_le_self x.c h1.1; omega
  have HP := Lib.hid (member_row x (s / x.c) o ⟨hx.1.1, hx.1.2.1⟩ ⟨hk0, hk1⟩ ⟨h2.1, by have := hx.1.2.1; omega⟩)
  obtain ⟨id, m, c, r, l, h⟩ := x
  unfold Cfg.val rowC rowVal at *
  dsimp only at *
  clear hcr hk0 hk1 hx h1 h2
  generalize s / c = k at *
  go_enter Try.func14, Try.ntmps14
  go_wp2_with fail
  refine (HA.out _).mono ?_
  rintro e w1 ⟨rfl, b1⟩
  have bt := Ext.trans (Ext.alloc (Below.refl w.heap.size w) (.cells #[.int .u32 (id : Int), .int .i64 m, .int .i64 c, .int .i64 r, .int .i64 l, .int .i64 h] 24)) b1
  clear b1
  go_wp2_with fail
  refine (HP.out _).mono ?_
  rintro e w2 ⟨rfl, b2⟩
  go_wp2
  go_ret2
  exact ⟨rfl, Ext.trans (Ext.alloc bt _) b2⟩
set_option maxRecDepth 100000 in
theorem slot_ok (x : Cfg) (hx : x.Ok) (s o : Int) (h1 : 0 ≤ s ∧ s < x.c * x.r) (h2 : 0 ≤ o ∧ o < x.m) (w : World) :
    Calls Try.prog 15 #[x.val, .int .i64 s, .int .i64 o] w fun e w' => e = .returned (.tuple #[.int .i64 ((o + x.m - (x.m - 1 - s / x.c % x.m) - 1) % x.m), .int .i64 0]) ∧ Below w.heap.size w w' := by
  have HA := Lib.hid (at_ok x hx s o x.m h1 h2)
  have hcr := Cfg.cr hx
  have hk0 : 0 ≤ s / x.c := Int.ediv_nonneg h1.1 (by have := hx.1.2.2.1; omega)
  have hk1 : s / x.c ≤ 1000 := by have := Int.ediv_le_self x.c h1.1; omega
  have HP := Lib.hid (slot_row x (s / x.c) o ⟨hx.1.1, hx.1.2.1⟩ ⟨hk0, hk1⟩ ⟨h2.1, by have := hx.1.2.1; omega⟩)
  obtain ⟨id, m, c, r, l, h⟩ := x
  unfold Cfg.val rowC rowVal at *
  dsimp only at *
  clear hcr hk0 hk1 hx h1 h2
  generalize s / c = k at *
  go_enter Try.func15, Try.ntmps15
  go_wp2_with fail
  refine (HA.out _).mono ?_
  rintro e w1 ⟨rfl, b1⟩
  have bt := Ext.trans (Ext.alloc (Below.refl w.heap.size w) (.cells #[.int .u32 (id : Int), .int .i64 m, .int .i64 c, .int .i64 r, .int .i64 l, .int .i64 h] 24)) b1
  clear b1
  go_wp2_with fail
  refine (HP.out _).mono ?_
  rintro e w2 ⟨rfl, b2⟩
  go_wp2
  go_ret2
  exact ⟨rfl, Ext.trans (Ext.alloc bt _) b2⟩

set_option maxRecDepth 100000 in
theorem block_bad (x : Cfg) (hx : ¬ x.Ok) (s o : Int) (w : World) :
    Calls Try.prog 12 #[x.val, .int .i64 s, .int .i64 o] w fun e w' => e = .returned (.tuple #[.int .i64 0, .int .i64 8]) ∧ Below w.heap.size w w' := by
  have HS := Lib.hid (at_bad x hx s o)
  obtain ⟨id, m, c, r, l, h⟩ := x
  unfold Cfg.val at *
  dsimp only at *
  go_enter Try.func12, Try.ntmps12
  go_wp2_with fail
  refine (HS.out _ _).mono ?_
  rintro e w1 ⟨rfl, b1⟩
  have bt := Ext.trans (Ext.alloc (Below.refl w.heap.size w) (.cells #[.int .u32 (id : Int), .int .i64 m, .int .i64 c, .int .i64 r, .int .i64 l, .int .i64 h] 24)) b1
  clear b1
  unfold noRowC
  go_wp2
  go_ret2
  exact ⟨rfl, Ext.alloc bt _⟩

set_option maxRecDepth 100000 in
theorem block_arg (x : Cfg) (hx : x.Ok) (s o : Int) (ho : Off s (x.c * x.r) o (x.m - 1)) (w : World) :
    Calls Try.prog 12 #[x.val, .int .i64 s, .int .i64 o] w fun e w' => e = .returned (.tuple #[.int .i64 0, .int .i64 2]) ∧ Below w.heap.size w w' := by
  have HS := Lib.hid (at_arg x hx s o (x.m - 1) ho)
  have hm1 := hx.1.1
  have hm2 := hx.1.2.1
  clear ho hx
  obtain ⟨id, m, c, r, l, h⟩ := x
  unfold Cfg.val at *
  dsimp only at *
  go_enter Try.func12, Try.ntmps12
  go_wp2_with fail
  refine (HS.out _).mono ?_
  rintro e w1 ⟨rfl, b1⟩
  have bt := Ext.trans (Ext.alloc (Below.refl w.heap.size w) (.cells #[.int .u32 (id : Int), .int .i64 m, .int .i64 c, .int .i64 r, .int .i64 l, .int .i64 h] 24)) b1
  clear b1
  unfold noRowC
  go_wp2
  go_ret2
  exact ⟨rfl, Ext.alloc bt _⟩

set_option maxRecDepth 100000 in
theorem block_ok (x : Cfg) (hx : x.Ok) (s o : Int) (h1 : 0 ≤ s ∧ s < x.c * x.r) (h2 : 0 ≤ o ∧ o < x.m - 1) (w : World) :
    Calls Try.prog 12 #[x.val, .int .i64 s, .int .i64 o] w fun e w' => e = .returned (.tuple #[.int .i64 ((s / x.c * (x.m - 1) + o) * x.c + s % x.c), .int .i64 0]) ∧ Below w.heap.size w w' := by
  have HA := Lib.hid (at_ok x hx s o (x.m - 1) h1 h2)
  have hcr := Cfg.cr hx
  have hk0 : 0 ≤ s / x.c := Int.ediv_nonneg h1.1 (by have := hx.1.2.2.1; omega)
  have hk1 : s / x.c ≤ 1000 := by have := Int.ediv_le_self x.c h1.1; omega
  have hq0 : 0 ≤ s % x.c := Int.emod_nonneg _ (by have := hx.1.2.2.1; omega)
  have hq1 : s % x.c < x.c := Int.emod_lt_of_pos _ (by have := hx.1.2.2.1; omega)
  obtain ⟨⟨hm1, hm2, hc1, hc2, _⟩, _⟩ := hx
  obtain ⟨id, m, c, r, l, h⟩ := x
  unfold Cfg.val rowC at *
  dsimp only at *
  have HD := Lib.hid (fun W => divide_any s c h1.1 (by omega) (by omega) (by omega) W)
  have hp0 : 0 ≤ s / c * (m - 1) := Int.mul_nonneg hk0 (by omega)
  have hp1 : s / c * (m - 1) ≤ 1000 * 15 := Int.mul_le_mul hk1 (by omega) (by omega) (by omega)
  have hr0 : 0 ≤ (s / c * (m - 1) + o) * c := Int.mul_nonneg (by omega) (by omega)
  have hr1 : (s / c * (m - 1) + o) * c ≤ 20000 * 8 := Int.mul_le_mul (by omega) hc2 (by omega) (by omega)
  clear hcr h1
  obtain ⟨h2, h2'⟩ := h2
  generalize s / c = k at *
  generalize s % c = q at *
  go_enter Try.func12, Try.ntmps12
  go_wp2_with fail
  refine (HA.out _).mono ?_
  rintro e w1 ⟨rfl, b1⟩
  have bt := Ext.alloc (Ext.trans (Ext.alloc (Below.refl w.heap.size w) (.cells #[.int .u32 (id : Int), .int .i64 m, .int .i64 c, .int .i64 r, .int .i64 l, .int .i64 h] 24)) b1) (.cells #[.int .u32 (id : Int), .int .i64 m, .int .i64 c, .int .i64 r, .int .i64 l, .int .i64 h, .int .i64 k] 48)
  have B1 := BoxOf.new w1 #[.int .u32 (id : Int), .int .i64 m, .int .i64 c, .int .i64 r, .int .i64 l, .int .i64 h, .int .i64 k] 48
  clear b1
  go_wp2_with fail
  refine (HD.out _).mono ?_
  rintro e w2 ⟨rfl, b2⟩
  have B2 := B1.next b2
  have bt2 := Ext.trans bt b2
  have x2 := B2.cell
  clear b2 B1 bt B2
  go_wp2
  go_ret2
  exact ⟨rfl, bt2⟩
end Go.Proofs.Ytdeffbhkmmppmaa
