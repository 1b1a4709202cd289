/- Layer 7 (turn): a stripe's row, or the error. -/
import Derived.Test.YtdeffbhkmmppmaaTurn2
namespace Go.Proofs.Ytdeffbhkmmppmaa
open Go.RowKit

def noRowC : Array Value := #[.int .u32 0, .int .i64 0, .int .i64 0, .int .i64 0, .int .i64 0, .int .i64 0, .int .i64 0]
def rowC (x : Cfg) (n : Int) : Array Value := #[.int .u32 (x.id : Int), .int .i64 x.m, .int .i64 x.c, .int .i64 x.r, .int .i64 x.l, .int .i64 x.h, .int .i64 n]

set_option maxRecDepth 100000 in
theorem at_bad (x : Cfg) (hx : ¬ x.Ok) (s o b : Int) (w : World) :
    Calls Try.prog 26 #[x.val, .int .i64 s, .int .i64 o, .int .i64 b] w fun e w' => e = .returned (.tuple #[.agg noRowC, .int .i64 8]) ∧ Below w.heap.size w w' := by
  have HS := Lib.hid (stripes_bad x hx)
  obtain ⟨id, m, c, r, l, h⟩ := x
  unfold Cfg.val at *
  dsimp only at *
  go_enter Try.func26, Try.ntmps26
  go_wp2_with fail
  have B1 := BoxOf.new' (w.alloc (.cells #[.int .u32 (id : Int), .int .i64 m, .int .i64 c, .int .i64 r, .int .i64 l, .int .i64 h] 24)) (w.heap.size + 1) noRowC 48 (by simp)
  have b0 := Ext.alloc (Ext.alloc (Below.refl w.heap.size w) (.cells #[.int .u32 (id : Int), .int .i64 m, .int .i64 c, .int .i64 r, .int .i64 l, .int .i64 h] 24)) (.cells noRowC 48)
  refine (HS.out _).mono ?_
  rintro e w1 ⟨rfl, b1⟩
  have B2 := Lib.hid (B1.next b1)
  have bt := Ext.trans b0 b1
  clear b1 b0 B1
  go_wp2_with (refine wpList_store_rowTo rfl 48 (.tmp 8) (.tmp 22) rfl rfl (w.heap.size + 1) noRowC rfl rfl 48 noRowC B2.out (by kernel_rfl) rfl (by kernel_rfl) ?_)
  exact bodyPost_ret (v := .tuple #[.agg noRowC, .int .i64 8]) (Eq.trans (results_row2 (P := Try.prog) (fn := Try.f26) (p := 8) (u := 9) (ty := 48) rfl _ _ (w.heap.size + 1) 48 noRowC (0, 0) _ rfl (B2.out.set _) Try.underlying48 rfl (by kernel_rfl)) rfl) rfl ⟨rfl, Ext.setRow bt (by omega) _⟩

/-- what is refused of a stripe and another number -/
def Off (s n o b : Int) : Prop := s < 0 ∨ (0 ≤ s ∧ n ≤ s) ∨ ((0 ≤ s ∧ s < n) ∧ o < 0) ∨ ((0 ≤ s ∧ s < n) ∧ 0 ≤ o ∧ b ≤ o)
theorem Off.or (s n o b : Int) : Off s n o b ∨ (0 ≤ s ∧ s < n ∧ 0 ≤ o ∧ o < b) := by unfold Off; omega

set_option maxRecDepth 100000 in
theorem at_arg (x : Cfg) (hx : x.Ok) (s o b : Int) (ho : Off s (x.c * x.r) o b) (w : World) :
    Calls Try.prog 26 #[x.val, .int .i64 s, .int .i64 o, .int .i64 b] w fun e w' => e = .returned (.tuple #[.agg noRowC, .int .i64 2]) ∧ Below w.heap.size w w' := by
  have HS := Lib.hid (stripes_ok x hx)
  obtain ⟨id, m, c, r, l, h⟩ := x
  unfold Cfg.val at *
  dsimp only at *
  generalize c * r = n at *
  rcases ho with ho | ⟨h1, ho⟩ | ⟨⟨h1, h2⟩, ho⟩ | ⟨⟨h1, h2⟩, h3, ho⟩
  all_goals
    go_enter Try.func26, Try.ntmps26
    go_wp2_with fail
    have B1 := BoxOf.new' (w.alloc (.cells #[.int .u32 (id : Int), .int .i64 m, .int .i64 c, .int .i64 r, .int .i64 l, .int .i64 h] 24)) (w.heap.size + 1) noRowC 48 (by simp)
    have b0 := Ext.alloc (Ext.alloc (Below.refl w.heap.size w) (.cells #[.int .u32 (id : Int), .int .i64 m, .int .i64 c, .int .i64 r, .int .i64 l, .int .i64 h] 24)) (.cells noRowC 48)
    refine (HS.out _).mono ?_
    rintro e w1 ⟨rfl, b1⟩
    have B2 := Lib.hid (B1.next b1)
    have bt := Ext.trans b0 b1
    clear b1 b0 B1
    go_wp2_with (refine wpList_store_rowTo rfl 48 (.tmp 8) (.tmp 35) rfl rfl (w.heap.size + 1) noRowC rfl rfl 48 noRowC B2.out (by kernel_rfl) rfl (by kernel_rfl) ?_)
    exact bodyPost_ret (v := .tuple #[.agg noRowC, .int .i64 2]) (Eq.trans (results_row2 (P := Try.prog) (fn := Try.f26) (p := 8) (u := 9) (ty := 48) rfl _ _ (w.heap.size + 1) 48 noRowC (0, 0) _ rfl (B2.out.set _) Try.underlying48 rfl (by kernel_rfl)) rfl) rfl ⟨rfl, Ext.setRow bt (by omega) _⟩

set_option maxRecDepth 100000 in
theorem at_ok (x : Cfg) (hx : x.Ok) (s o b : Int) (h1 : 0 ≤ s ∧ s < x.c * x.r) (h2 : 0 ≤ o ∧ o < b) (w : World) :
    Calls Try.prog 26 #[x.val, .int .i64 s, .int .i64 o, .int .i64 b] w fun e w' => e = .returned (.tuple #[.agg (rowC x (s / x.c)), .int .i64 0]) ∧ Below w.heap.size w w' := by
  have HS := Lib.hid (stripes_ok x hx)
  obtain ⟨hc, hc'⟩ := hx.1.2.2
  have hcr := Cfg.cr hx
  obtain ⟨id, m, c, r, l, h⟩ := x
  unfold Cfg.val rowC at *
  dsimp only at *
  generalize c * r = n at *
  obtain ⟨h1, h1'⟩ := h1
  obtain ⟨h2, h2'⟩ := h2
  obtain ⟨hc', _⟩ := hc'
  have HD := Lib.hid (fun W => divide_any s c h1 (by omega) (by omega) (by omega) W)
  go_enter Try.func26, Try.ntmps26
  go_wp2_with fail
  have A1 := BoxOf.alloc (BoxOf.new w #[.int .u32 (id : Int), .int .i64 m, .int .i64 c, .int .i64 r, .int .i64 l, .int .i64 h] 24) (.cells noRowC 48)
  have B1 := BoxOf.new' (w.alloc (.cells #[.int .u32 (id : Int), .int .i64 m, .int .i64 c, .int .i64 r, .int .i64 l, .int .i64 h] 24)) (w.heap.size + 1) noRowC 48 (by simp)
  have b0 := Ext.alloc (Ext.alloc (Below.refl w.heap.size w) (.cells #[.int .u32 (id : Int), .int .i64 m, .int .i64 c, .int .i64 r, .int .i64 l, .int .i64 h] 24)) (.cells noRowC 48)
  refine (HS.out _).mono ?_
  rintro e w1 ⟨rfl, b1⟩
  have A2 := A1.next b1
  have B2 := B1.next b1
  have bt := Ext.trans b0 b1
  have x2 := A2.cell
  clear b1 b0 B1 A1
  go_wp2_with fail
  refine (HD.out _).mono ?_
  rintro e w2 ⟨rfl, b2⟩
  have A3 := A2.next b2
  have B3 := Lib.hid (B2.next b2)
  have bt3 := Ext.trans bt b2
  have x3 := A3.cell
  clear x2 A2 B2 A3 b2 bt
  generalize hk : s / c = k
  have HK := Lib.hid hk
  clear hk
  go_wp2_with (refine wpList_store_rowTo rfl 48 (.tmp 8) (.tmp 45) rfl rfl (w.heap.size + 1) #[.int .u32 (id : Int), .int .i64 m, .int .i64 c, .int .i64 r, .int .i64 l, .int .i64 h, .int .i64 k] rfl rfl 48 noRowC B3.out (by kernel_rfl) rfl (by kernel_rfl) ?_)
  exact bodyPost_ret (v := .tuple #[.agg #[.int .u32 (id : Int), .int .i64 m, .int .i64 c, .int .i64 r, .int .i64 l, .int .i64 h, .int .i64 k], .int .i64 0]) (Eq.trans (results_row2 (P := Try.prog) (fn := Try.f26) (p := 8) (u := 9) (ty := 48) rfl _ _ (w.heap.size + 1) 48 #[.int .u32 (id : Int), .int .i64 m, .int .i64 c, .int .i64 r, .int .i64 l, .int .i64 h, .int .i64 k] (0, 0) _ rfl (B3.out.set _) Try.underlying48 rfl (by kernel_rfl)) rfl) rfl ⟨by rw [HK.out], Ext.setRow bt3 (by omega) _⟩
end Go.Proofs.Ytdeffbhkmmppmaa
