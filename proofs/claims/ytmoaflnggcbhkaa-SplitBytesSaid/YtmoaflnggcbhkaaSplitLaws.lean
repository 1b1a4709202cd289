/- Layer 8 (split): what each kind may be. -/
import Derived.Test.YtmoaflnggcbhkaaSplit4
namespace Go.Proofs.Ytmoaflnggcbhkaa
open Go.RowKit
set_option linter.unusedSimpArgs false
set_option linter.unusedVariables false

theorem ask_any (k a y : Int) (hy : 0 ≤ y ∧ y ≤ 8) (w : World) : Calls Try.prog 12 #[.int .u8 k, .int .i64 a, .int .i64 y] w (AskIs k a y w) := by
  cases hk : kBytes k with
  | false => exact (ask_none k a y hk w).mono fun e w' h => ⟨none, 0, 0, h.1, by unfold kWant; rw [hk]; rfl, h.2⟩
  | true =>
    obtain ⟨n, rfl⟩ : ∃ n : Nat, y = (n : Int) := ⟨y.toNat, by omega⟩
    exact (ask_bytes k a n (of_decide_eq_true hk) (by omega) w).mono fun e w' h => ⟨_, _, _, h.1, by unfold kWant; rw [hk]; simp; omega, h.2⟩

def fourC : Cfg := ⟨0, 3, 1, 2, 12, 2⟩
theorem fourC_ok : fourC.Ok := by decide
def fourV : Array Value := #[.int .u32 0, .int .i64 3, .int .i64 1, .int .i64 2, .int .i64 12, .int .i64 2]
theorem four_any (w : World) : Calls Try.prog 13 #[] w fun e w' => e = .returned (.agg #[.int .u32 0, .int .i64 3, .int .i64 1, .int .i64 2, .int .i64 12, .int .i64 2]) ∧ Below w.heap.size w w' := by
  go_enter Try.func13, Try.ntmps13
  go_wp2
  exact bodyPost_ret (v := .agg fourV) (results_cell_row rfl _ _ w.heap.size 24 fourV (0, 0) _ rfl (heap_alloc_new _ _) Try.underlying24 rfl (by kernel_rfl)) rfl ⟨rfl, Ext.alloc (Below.refl _ _) _⟩

set_option maxRecDepth 100000 in
theorem spalive_any (w : World) : Calls Try.prog 9 #[] w fun e w' => e = .returned (.bool true) ∧ Below w.heap.size w w' := by
  have HA := Lib.hid (ask_none 1 1 2 (by decide))
  have HB := Lib.hid (sblocks_ok fourC 1 1 2 none 0 0 (by decide) (by decide) (scheck_ok fourC fourC_ok 1 1 2 none 0 0 (by decide) (by decide)))
  go_enter Try.func9, Try.ntmps9
  go_wp2_with fail
  refine (four_any _).mono ?_
  rintro e w1 ⟨rfl, b1⟩
  go_wp2_with fail
  refine (HA.out _).mono ?_
  rintro e w2 ⟨rfl, b2⟩
  go_wp2_with fail
  refine (HB.out _).mono ?_
  rintro e w3 ⟨v, rfl, hown, b3⟩
  obtain ⟨A, c, rfl, hc, hr⟩ := own_rd hown
  have hs : seqI 1 (2 : Int).toNat = [.int .i64 1, .int .i64 2] := rfl
  rw [hs] at hr
  rcases hr with hr | ⟨b, off, rfl, hcell⟩
  · cases hr
  have c0 := hcell 0 (by decide)
  have c1 := hcell 1 (by decide)
  have t3 := Ext.trans (Ext.trans b1 b2) b3
  have e0 : w3.cell? ⟨b, off, none⟩ = some (.int .i64 1) := c0
  have e1 : w3.cell? ⟨b, off + 1, none⟩ = some (.int .i64 2) := c1
  have hn2 : (2 : Int).toNat = 2 := rfl
  rw [hn2] at hc
  clear hcell c0 c1 hs hown b1 b2 b3
  rw [hn2]
  clear hn2
  go_wp2
  go_ret
  exact ⟨rfl, t3⟩

set_option maxRecDepth 100000 in
theorem kinds_far (x : Cfg) (nb e0 E : Int) (k a y : Int) (hE : (E != 0) = true) (hy : y < 0 ∨ (0 ≤ y ∧ 8 < y)) (HB0 : ∀ W, Calls Try.prog 10 #[x.val] W fun e w' => e = .returned (.tuple #[.int .i64 nb, .int .i64 e0]) ∧ Below W.heap.size W w')
    (HC0 : ∀ W, Calls Try.prog 11 #[x.val, .agg #[.int .u8 k, .int .i64 a, .int .i64 y, .slice none 0 0]] W fun e w' => e = .returned (.int .i64 E) ∧ Below W.heap.size W w') (w : World) :
    Calls Try.prog 3 #[x.val, .int .u8 k, .int .i64 a, .int .i64 y] w fun e w' => e = .returned (.bool true) ∧ Below w.heap.size w w' := by
  have HB := Lib.hid HB0
  have HC := Lib.hid HC0
  clear HB0 HC0
  obtain ⟨id, m, c, r, l, h⟩ := x
  unfold Cfg.val at *
  dsimp only at *
  rcases hy with hy | ⟨hy0, hy⟩
  all_goals
    go_enter Try.func3, Try.ntmps3
    go_wp2_with fail
    have A0 := BoxOf.new w #[.int .u32 (id : Int), .int .i64 m, .int .i64 c, .int .i64 r, .int .i64 l, .int .i64 h] 24
    have t0 := Ext.alloc (Below.refl w.heap.size w) (.cells #[.int .u32 (id : Int), .int .i64 m, .int .i64 c, .int .i64 r, .int .i64 l, .int .i64 h] 24)
    refine (spalive_any _).mono ?_
    rintro e w1 ⟨rfl, b1⟩
    have A1 := A0.next b1
    have t1 := Ext.trans t0 b1
    have x1 := A1.cell
    clear A0 t0 b1
    go_wp2_with fail
    refine (HB.out _).mono ?_
    rintro e w2 ⟨rfl, b2⟩
    have A2 := A1.next b2
    have t2 := Ext.trans t1 b2
    have x2 := A2.cell
    clear A1 t1 b2 x1
    go_wp2_with fail
    refine (HC.out _).mono ?_
    rintro e w3 ⟨rfl, b3⟩
    have t3 := Ext.trans t2 b3
    go_wp2
    go_ret
    exact ⟨rfl, t3⟩

set_option maxRecDepth 100000 in
theorem kinds_bad (x : Cfg) (hx : ¬ x.Ok) (k a y : Int) (hy : 0 ≤ y ∧ y ≤ 8) (w : World) :
    Calls Try.prog 3 #[x.val, .int .u8 k, .int .i64 a, .int .i64 y] w fun e w' => e = .returned (.bool true) ∧ Below w.heap.size w w' := by
  have HB := Lib.hid (blocks_bad x hx)
  have HAS := Lib.hid (ask_any k a y hy)
  have HCK := Lib.hid (fun (A : Option Addr) (n q : Nat) (_ : (n : Int) = kWant k y) W => scheck_bad x hx k a y A n q W)
  obtain ⟨id, m, c, r, l, h⟩ := x
  unfold Cfg.val at *
  dsimp only at *
  obtain ⟨hy0, hy1⟩ := hy
  go_enter Try.func3, Try.ntmps3
  go_wp2_with fail
  have A0 := BoxOf.new w #[.int .u32 (id : Int), .int .i64 m, .int .i64 c, .int .i64 r, .int .i64 l, .int .i64 h] 24
  have t0 := Ext.alloc (Below.refl w.heap.size w) (.cells #[.int .u32 (id : Int), .int .i64 m, .int .i64 c, .int .i64 r, .int .i64 l, .int .i64 h] 24)
  refine (spalive_any _).mono ?_
  rintro e w1 ⟨rfl, b1⟩
  have A1 := A0.next b1
  have t1 := Ext.trans t0 b1
  have x1 := A1.cell
  clear A0 t0 b1
  go_wp2_with fail
  refine (HB.out _).mono ?_
  rintro e w2 ⟨rfl, b2⟩
  have A2 := A1.next b2
  have t2 := Ext.trans t1 b2
  have x2 := A2.cell
  clear A1 t1 b2 x1
  go_wp2_with fail
  go_region_held3 (fun w' => Below w.heap.size w w' ∧ BoxOf w' w.heap.size #[.int .u32 (id : Int), .int .i64 m, .int .i64 c, .int .i64 r, .int .i64 l, .int .i64 h] 24 ∧ ∀ o, w'.cell? ⟨w.heap.size, o, none⟩ = #[.int .u32 (id : Int), .int .i64 m, .int .i64 c, .int .i64 r, .int .i64 l, .int .i64 h].toList[o]?)
    (first | exact ⟨Ext.drew t2, A2.drew, x2⟩ | exact ⟨Ext.trans (And.left (by assumption)) k3, BoxOf.next (And.left (And.right (by assumption))) k3, (BoxOf.next (And.left (And.right (by assumption))) k3).cell⟩ | assumption)
    (first | (go_at_call 12; refine (HAS.out _).mono ?_; rintro e w3 ⟨AA, nn, qq, rfl, hn, k3⟩) | (go_at_call 11; refine (HCK.out AA nn qq hn _).mono ?_; rintro e w4 ⟨rfl, k3⟩))
  rename_i hH
  obtain ⟨bH, _⟩ := hH
  clear x2 A2 t2
  go_wp2
  go_ret
  exact ⟨rfl, bH⟩

set_option maxRecDepth 100000 in
theorem kinds_none (x : Cfg) (hx : x.Ok) (k a y fv : Int) (hy : 0 ≤ y ∧ y ≤ 8) (HC : ∀ (A : Option Addr) (n q : Nat) (_ : (n : Int) = kWant k y) W, Calls Try.prog 11 #[x.val, .agg #[.int .u8 k, .int .i64 a, .int .i64 y, .slice A n q]] W fun e w' => e = .returned (.int .i64 fv) ∧ Below W.heap.size W w') (hr : k < 1 ∨ (1 ≤ k ∧ 6 < k)) (hf : fv = 2) (w : World) : Calls Try.prog 3 #[x.val, .int .u8 k, .int .i64 a, .int .i64 y] w fun e w' => e = .returned (.bool true) ∧ Below w.heap.size w w' := by
  subst hf
  have HB := Lib.hid (blocks_ok x hx)
  have HAS := Lib.hid (ask_any k a y hy)
  have HCK := Lib.hid HC
  have hcr := Cfg.crm hx
  clear HC hx
  obtain ⟨id, m, c, r, l, h⟩ := x
  unfold Cfg.val at *
  dsimp only at *
  generalize c * r * (m - 1) = nb at *
  obtain ⟨hn1, hn2⟩ := hcr
  obtain ⟨hy0, hy1⟩ := hy
  have g4 : (k == 4) = false := beq_eq_false_iff_ne.2 (by omega)
  have g6 : (k == 6) = false := beq_eq_false_iff_ne.2 (by omega)
  rcases hr with hr | ⟨hr1, hr⟩
  all_goals
    go_enter Try.func3, Try.ntmps3
    go_wp2_with fail
    have A0 := BoxOf.new w #[.int .u32 (id : Int), .int .i64 m, .int .i64 c, .int .i64 r, .int .i64 l, .int .i64 h] 24
    have t0 := Ext.alloc (Below.refl w.heap.size w) (.cells #[.int .u32 (id : Int), .int .i64 m, .int .i64 c, .int .i64 r, .int .i64 l, .int .i64 h] 24)
    refine (spalive_any _).mono ?_
    rintro e w1 ⟨rfl, b1⟩
    have A1 := A0.next b1
    have t1 := Ext.trans t0 b1
    have x1 := A1.cell
    clear A0 t0 b1
    go_wp2_with fail
    refine (HB.out _).mono ?_
    rintro e w2 ⟨rfl, b2⟩
    have A2 := A1.next b2
    have t2 := Ext.trans t1 b2
    have x2 := A2.cell
    clear A1 t1 b2 x1
    go_wp2_with fail
    go_region_held3 (fun w' => Below w.heap.size w w' ∧ BoxOf w' w.heap.size #[.int .u32 (id : Int), .int .i64 m, .int .i64 c, .int .i64 r, .int .i64 l, .int .i64 h] 24 ∧ ∀ o, w'.cell? ⟨w.heap.size, o, none⟩ = #[.int .u32 (id : Int), .int .i64 m, .int .i64 c, .int .i64 r, .int .i64 l, .int .i64 h].toList[o]?)
      (first | exact ⟨Ext.drew t2, A2.drew, x2⟩ | exact ⟨Ext.trans (And.left (by assumption)) k3, BoxOf.next (And.left (And.right (by assumption))) k3, (BoxOf.next (And.left (And.right (by assumption))) k3).cell⟩ | assumption)
      (first | (go_at_call 12; refine (HAS.out _).mono ?_; rintro e w3 ⟨AA, nn, qq, rfl, hn, k3⟩) | (go_at_call 11; refine (HCK.out AA nn qq hn _).mono ?_; rintro e w4 ⟨rfl, k3⟩))
    rename_i hH
    obtain ⟨bH, _⟩ := hH
    clear x2 A2 t2
    go_wp2
    go_ret
    exact ⟨rfl, bH⟩

set_option maxRecDepth 100000 in
set_option maxHeartbeats 400000 in
theorem kinds_w41 (x : Cfg) (hx : x.Ok) (k a y fv : Int) (hy : 0 ≤ y ∧ y ≤ 8) (HC : ∀ (A : Option Addr) (n q : Nat) (_ : (n : Int) = kWant k y) W, Calls Try.prog 11 #[x.val, .agg #[.int .u8 k, .int .i64 a, .int .i64 y, .slice A n q]] W fun e w' => e = .returned (.int .i64 fv) ∧ Below W.heap.size W w') (hk : 1 ≤ k ∧ k ≤ 6) (g4 : (k == 4) = true) (h1 : a < 0) (h2 : (a == 0) = false) (hf : fv = 2) (w : World) : Calls Try.prog 3 #[x.val, .int .u8 k, .int .i64 a, .int .i64 y] w fun e w' => e = .returned (.bool true) ∧ Below w.heap.size w w' := by
  subst hf
  have HB := Lib.hid (blocks_ok x hx)
  have HAS := Lib.hid (ask_any k a y hy)
  have HCK := Lib.hid HC
  have hcr := Cfg.crm hx
  clear HC hx
  obtain ⟨id, m, c, r, l, h⟩ := x
  unfold Cfg.val at *
  dsimp only at *
  generalize c * r * (m - 1) = nb at *
  obtain ⟨hn1, hn2⟩ := hcr
  obtain ⟨hy0, hy1⟩ := hy
  obtain ⟨hk1, hk2⟩ := hk
  go_enter Try.func3, Try.ntmps3
  go_wp2_with fail
  have A0 := BoxOf.new w #[.int .u32 (id : Int), .int .i64 m, .int .i64 c, .int .i64 r, .int .i64 l, .int .i64 h] 24
  have t0 := Ext.alloc (Below.refl w.heap.size w) (.cells #[.int .u32 (id : Int), .int .i64 m, .int .i64 c, .int .i64 r, .int .i64 l, .int .i64 h] 24)
  refine (spalive_any _).mono ?_
  rintro e w1 ⟨rfl, b1⟩
  have A1 := A0.next b1
  have t1 := Ext.trans t0 b1
  have x1 := A1.cell
  clear A0 t0 b1
  go_wp2_with fail
  refine (HB.out _).mono ?_
  rintro e w2 ⟨rfl, b2⟩
  have A2 := A1.next b2
  have t2 := Ext.trans t1 b2
  have x2 := A2.cell
  clear A1 t1 b2 x1
  go_wp2_with fail
  go_region_held3 (fun w' => Below w.heap.size w w' ∧ BoxOf w' w.heap.size #[.int .u32 (id : Int), .int .i64 m, .int .i64 c, .int .i64 r, .int .i64 l, .int .i64 h] 24 ∧ ∀ o, w'.cell? ⟨w.heap.size, o, none⟩ = #[.int .u32 (id : Int), .int .i64 m, .int .i64 c, .int .i64 r, .int .i64 l, .int .i64 h].toList[o]?)
    (first | exact ⟨Ext.drew t2, A2.drew, x2⟩ | exact ⟨Ext.trans (And.left (by assumption)) k3, BoxOf.next (And.left (And.right (by assumption))) k3, (BoxOf.next (And.left (And.right (by assumption))) k3).cell⟩ | assumption)
    (first | (go_at_call 12; refine (HAS.out _).mono ?_; rintro e w3 ⟨AA, nn, qq, rfl, hn, k3⟩) | (go_at_call 11; refine (HCK.out AA nn qq hn _).mono ?_; rintro e w4 ⟨rfl, k3⟩))
  rename_i hH
  obtain ⟨bH, _⟩ := hH
  clear x2 A2 t2
  go_wp2
  go_ret
  exact ⟨rfl, bH⟩

set_option maxRecDepth 100000 in
set_option maxHeartbeats 400000 in
theorem kinds_w42 (x : Cfg) (hx : x.Ok) (k a y fv : Int) (hy : 0 ≤ y ∧ y ≤ 8) (HC : ∀ (A : Option Addr) (n q : Nat) (_ : (n : Int) = kWant k y) W, Calls Try.prog 11 #[x.val, .agg #[.int .u8 k, .int .i64 a, .int .i64 y, .slice A n q]] W fun e w' => e = .returned (.int .i64 fv) ∧ Below W.heap.size W w') (hk : 1 ≤ k ∧ k ≤ 6) (g4 : (k == 4) = true) (h1 : 0 ≤ a) (h2 : y < 1) (h3 : (a == 0) = false) (hf : fv = 2) (w : World) : Calls Try.prog 3 #[x.val, .int .u8 k, .int .i64 a, .int .i64 y] w fun e w' => e = .returned (.bool true) ∧ Below w.heap.size w w' := by
  subst hf
  have HB := Lib.hid (blocks_ok x hx)
  have HAS := Lib.hid (ask_any k a y hy)
  have HCK := Lib.hid HC
  have hcr := Cfg.crm hx
  clear HC hx
  obtain ⟨id, m, c, r, l, h⟩ := x
  unfold Cfg.val at *
  dsimp only at *
  generalize c * r * (m - 1) = nb at *
  obtain ⟨hn1, hn2⟩ := hcr
  obtain ⟨hy0, hy1⟩ := hy
  obtain ⟨hk1, hk2⟩ := hk
  go_enter Try.func3, Try.ntmps3
  go_wp2_with fail
  have A0 := BoxOf.new w #[.int .u32 (id : Int), .int .i64 m, .int .i64 c, .int .i64 r, .int .i64 l, .int .i64 h] 24
  have t0 := Ext.alloc (Below.refl w.heap.size w) (.cells #[.int .u32 (id : Int), .int .i64 m, .int .i64 c, .int .i64 r, .int .i64 l, .int .i64 h] 24)
  refine (spalive_any _).mono ?_
  rintro e w1 ⟨rfl, b1⟩
  have A1 := A0.next b1
  have t1 := Ext.trans t0 b1
  have x1 := A1.cell
  clear A0 t0 b1
  go_wp2_with fail
  refine (HB.out _).mono ?_
  rintro e w2 ⟨rfl, b2⟩
  have A2 := A1.next b2
  have t2 := Ext.trans t1 b2
  have x2 := A2.cell
  clear A1 t1 b2 x1
  go_wp2_with fail
  go_region_held3 (fun w' => Below w.heap.size w w' ∧ BoxOf w' w.heap.size #[.int .u32 (id : Int), .int .i64 m, .int .i64 c, .int .i64 r, .int .i64 l, .int .i64 h] 24 ∧ ∀ o, w'.cell? ⟨w.heap.size, o, none⟩ = #[.int .u32 (id : Int), .int .i64 m, .int .i64 c, .int .i64 r, .int .i64 l, .int .i64 h].toList[o]?)
    (first | exact ⟨Ext.drew t2, A2.drew, x2⟩ | exact ⟨Ext.trans (And.left (by assumption)) k3, BoxOf.next (And.left (And.right (by assumption))) k3, (BoxOf.next (And.left (And.right (by assumption))) k3).cell⟩ | assumption)
    (first | (go_at_call 12; refine (HAS.out _).mono ?_; rintro e w3 ⟨AA, nn, qq, rfl, hn, k3⟩) | (go_at_call 11; refine (HCK.out AA nn qq hn _).mono ?_; rintro e w4 ⟨rfl, k3⟩))
  rename_i hH
  obtain ⟨bH, _⟩ := hH
  clear x2 A2 t2
  go_wp2
  go_ret
  exact ⟨rfl, bH⟩

set_option maxRecDepth 100000 in
set_option maxHeartbeats 400000 in
theorem kinds_w43 (x : Cfg) (hx : x.Ok) (k a y fv : Int) (hy : 0 ≤ y ∧ y ≤ 8) (HC : ∀ (A : Option Addr) (n q : Nat) (_ : (n : Int) = kWant k y) W, Calls Try.prog 11 #[x.val, .agg #[.int .u8 k, .int .i64 a, .int .i64 y, .slice A n q]] W fun e w' => e = .returned (.int .i64 fv) ∧ Below W.heap.size W w') (hk : 1 ≤ k ∧ k ≤ 6) (g4 : (k == 4) = true) (h1 : 0 ≤ a) (h2 : y < 1) (h3 : (a == 0) = true) (h4 : (y == 0) = true) (hf : fv = 0) (w : World) : Calls Try.prog 3 #[x.val, .int .u8 k, .int .i64 a, .int .i64 y] w fun e w' => e = .returned (.bool true) ∧ Below w.heap.size w w' := by
  subst hf
  have HB := Lib.hid (blocks_ok x hx)
  have HAS := Lib.hid (ask_any k a y hy)
  have HCK := Lib.hid HC
  have hcr := Cfg.crm hx
  clear HC hx
  obtain ⟨id, m, c, r, l, h⟩ := x
  unfold Cfg.val at *
  dsimp only at *
  generalize c * r * (m - 1) = nb at *
  obtain ⟨hn1, hn2⟩ := hcr
  obtain ⟨hy0, hy1⟩ := hy
  obtain ⟨hk1, hk2⟩ := hk
  go_enter Try.func3, Try.ntmps3
  go_wp2_with fail
  have A0 := BoxOf.new w #[.int .u32 (id : Int), .int .i64 m, .int .i64 c, .int .i64 r, .int .i64 l, .int .i64 h] 24
  have t0 := Ext.alloc (Below.refl w.heap.size w) (.cells #[.int .u32 (id : Int), .int .i64 m, .int .i64 c, .int .i64 r, .int .i64 l, .int .i64 h] 24)
  refine (spalive_any _).mono ?_
  rintro e w1 ⟨rfl, b1⟩
  have A1 := A0.next b1
  have t1 := Ext.trans t0 b1
  have x1 := A1.cell
  clear A0 t0 b1
  go_wp2_with fail
  refine (HB.out _).mono ?_
  rintro e w2 ⟨rfl, b2⟩
  have A2 := A1.next b2
  have t2 := Ext.trans t1 b2
  have x2 := A2.cell
  clear A1 t1 b2 x1
  go_wp2_with fail
  go_region_held3 (fun w' => Below w.heap.size w w' ∧ BoxOf w' w.heap.size #[.int .u32 (id : Int), .int .i64 m, .int .i64 c, .int .i64 r, .int .i64 l, .int .i64 h] 24 ∧ ∀ o, w'.cell? ⟨w.heap.size, o, none⟩ = #[.int .u32 (id : Int), .int .i64 m, .int .i64 c, .int .i64 r, .int .i64 l, .int .i64 h].toList[o]?)
    (first | exact ⟨Ext.drew t2, A2.drew, x2⟩ | exact ⟨Ext.trans (And.left (by assumption)) k3, BoxOf.next (And.left (And.right (by assumption))) k3, (BoxOf.next (And.left (And.right (by assumption))) k3).cell⟩ | assumption)
    (first | (go_at_call 12; refine (HAS.out _).mono ?_; rintro e w3 ⟨AA, nn, qq, rfl, hn, k3⟩) | (go_at_call 11; refine (HCK.out AA nn qq hn _).mono ?_; rintro e w4 ⟨rfl, k3⟩))
  rename_i hH
  obtain ⟨bH, _⟩ := hH
  clear x2 A2 t2
  go_wp2
  go_ret
  exact ⟨rfl, bH⟩

set_option maxRecDepth 100000 in
set_option maxHeartbeats 400000 in
theorem kinds_w44 (x : Cfg) (hx : x.Ok) (k a y fv : Int) (hy : 0 ≤ y ∧ y ≤ 8) (HC : ∀ (A : Option Addr) (n q : Nat) (_ : (n : Int) = kWant k y) W, Calls Try.prog 11 #[x.val, .agg #[.int .u8 k, .int .i64 a, .int .i64 y, .slice A n q]] W fun e w' => e = .returned (.int .i64 fv) ∧ Below W.heap.size W w') (hk : 1 ≤ k ∧ k ≤ 6) (g4 : (k == 4) = true) (h1 : 0 ≤ a) (h2 : 1 ≤ y) (h5 : a ≤ x.c * x.r * (x.m - 1) - y ∨ x.c * x.r * (x.m - 1) - y < a) (h3 : (a == 0) = false) (hf : fv = 2) (w : World) : Calls Try.prog 3 #[x.val, .int .u8 k, .int .i64 a, .int .i64 y] w fun e w' => e = .returned (.bool true) ∧ Below w.heap.size w w' := by
  subst hf
  have HB := Lib.hid (blocks_ok x hx)
  have HAS := Lib.hid (ask_any k a y hy)
  have HCK := Lib.hid HC
  have hcr := Cfg.crm hx
  clear HC hx
  obtain ⟨id, m, c, r, l, h⟩ := x
  unfold Cfg.val at *
  dsimp only at *
  generalize c * r * (m - 1) = nb at *
  obtain ⟨hn1, hn2⟩ := hcr
  obtain ⟨hy0, hy1⟩ := hy
  obtain ⟨hk1, hk2⟩ := hk
  rcases h5 with h5 | h5
  all_goals
    go_enter Try.func3, Try.ntmps3
    go_wp2_with fail
    have A0 := BoxOf.new w #[.int .u32 (id : Int), .int .i64 m, .int .i64 c, .int .i64 r, .int .i64 l, .int .i64 h] 24
    have t0 := Ext.alloc (Below.refl w.heap.size w) (.cells #[.int .u32 (id : Int), .int .i64 m, .int .i64 c, .int .i64 r, .int .i64 l, .int .i64 h] 24)
    refine (spalive_any _).mono ?_
    rintro e w1 ⟨rfl, b1⟩
    have A1 := A0.next b1
    have t1 := Ext.trans t0 b1
    have x1 := A1.cell
    clear A0 t0 b1
    go_wp2_with fail
    refine (HB.out _).mono ?_
    rintro e w2 ⟨rfl, b2⟩
    have A2 := A1.next b2
    have t2 := Ext.trans t1 b2
    have x2 := A2.cell
    clear A1 t1 b2 x1
    go_wp2_with fail
    go_region_held3 (fun w' => Below w.heap.size w w' ∧ BoxOf w' w.heap.size #[.int .u32 (id : Int), .int .i64 m, .int .i64 c, .int .i64 r, .int .i64 l, .int .i64 h] 24 ∧ ∀ o, w'.cell? ⟨w.heap.size, o, none⟩ = #[.int .u32 (id : Int), .int .i64 m, .int .i64 c, .int .i64 r, .int .i64 l, .int .i64 h].toList[o]?)
      (first | exact ⟨Ext.drew t2, A2.drew, x2⟩ | exact ⟨Ext.trans (And.left (by assumption)) k3, BoxOf.next (And.left (And.right (by assumption))) k3, (BoxOf.next (And.left (And.right (by assumption))) k3).cell⟩ | assumption)
      (first | (go_at_call 12; refine (HAS.out _).mono ?_; rintro e w3 ⟨AA, nn, qq, rfl, hn, k3⟩) | (go_at_call 11; refine (HCK.out AA nn qq hn _).mono ?_; rintro e w4 ⟨rfl, k3⟩))
    rename_i hH
    obtain ⟨bH, _⟩ := hH
    clear x2 A2 t2
    go_wp2
    go_ret
    exact ⟨rfl, bH⟩

set_option maxRecDepth 100000 in
set_option maxHeartbeats 400000 in
theorem kinds_w45 (x : Cfg) (hx : x.Ok) (k a y fv : Int) (hy : 0 ≤ y ∧ y ≤ 8) (HC : ∀ (A : Option Addr) (n q : Nat) (_ : (n : Int) = kWant k y) W, Calls Try.prog 11 #[x.val, .agg #[.int .u8 k, .int .i64 a, .int .i64 y, .slice A n q]] W fun e w' => e = .returned (.int .i64 fv) ∧ Below W.heap.size W w') (hk : 1 ≤ k ∧ k ≤ 6) (g4 : (k == 4) = true) (h1 : 0 ≤ a) (h2 : 1 ≤ y) (h5 : a ≤ x.c * x.r * (x.m - 1) - y ∨ x.c * x.r * (x.m - 1) - y < a) (h3 : (a == 0) = true) (h4 : (y == 0) = false) (hf : fv = 2) (w : World) : Calls Try.prog 3 #[x.val, .int .u8 k, .int .i64 a, .int .i64 y] w fun e w' => e = .returned (.bool true) ∧ Below w.heap.size w w' := by
  subst hf
  have HB := Lib.hid (blocks_ok x hx)
  have HAS := Lib.hid (ask_any k a y hy)
  have HCK := Lib.hid HC
  have hcr := Cfg.crm hx
  clear HC hx
  obtain ⟨id, m, c, r, l, h⟩ := x
  unfold Cfg.val at *
  dsimp only at *
  generalize c * r * (m - 1) = nb at *
  obtain ⟨hn1, hn2⟩ := hcr
  obtain ⟨hy0, hy1⟩ := hy
  obtain ⟨hk1, hk2⟩ := hk
  rcases h5 with h5 | h5
  all_goals
    go_enter Try.func3, Try.ntmps3
    go_wp2_with fail
    have A0 := BoxOf.new w #[.int .u32 (id : Int), .int .i64 m, .int .i64 c, .int .i64 r, .int .i64 l, .int .i64 h] 24
    have t0 := Ext.alloc (Below.refl w.heap.size w) (.cells #[.int .u32 (id : Int), .int .i64 m, .int .i64 c, .int .i64 r, .int .i64 l, .int .i64 h] 24)
    refine (spalive_any _).mono ?_
    rintro e w1 ⟨rfl, b1⟩
    have A1 := A0.next b1
    have t1 := Ext.trans t0 b1
    have x1 := A1.cell
    clear A0 t0 b1
    go_wp2_with fail
    refine (HB.out _).mono ?_
    rintro e w2 ⟨rfl, b2⟩
    have A2 := A1.next b2
    have t2 := Ext.trans t1 b2
    have x2 := A2.cell
    clear A1 t1 b2 x1
    go_wp2_with fail
    go_region_held3 (fun w' => Below w.heap.size w w' ∧ BoxOf w' w.heap.size #[.int .u32 (id : Int), .int .i64 m, .int .i64 c, .int .i64 r, .int .i64 l, .int .i64 h] 24 ∧ ∀ o, w'.cell? ⟨w.heap.size, o, none⟩ = #[.int .u32 (id : Int), .int .i64 m, .int .i64 c, .int .i64 r, .int .i64 l, .int .i64 h].toList[o]?)
      (first | exact ⟨Ext.drew t2, A2.drew, x2⟩ | exact ⟨Ext.trans (And.left (by assumption)) k3, BoxOf.next (And.left (And.right (by assumption))) k3, (BoxOf.next (And.left (And.right (by assumption))) k3).cell⟩ | assumption)
      (first | (go_at_call 12; refine (HAS.out _).mono ?_; rintro e w3 ⟨AA, nn, qq, rfl, hn, k3⟩) | (go_at_call 11; refine (HCK.out AA nn qq hn _).mono ?_; rintro e w4 ⟨rfl, k3⟩))
    rename_i hH
    obtain ⟨bH, _⟩ := hH
    clear x2 A2 t2
    go_wp2
    go_ret
    exact ⟨rfl, bH⟩

set_option maxRecDepth 100000 in
set_option maxHeartbeats 400000 in
theorem kinds_w61 (x : Cfg) (hx : x.Ok) (k a y fv : Int) (hy : 0 ≤ y ∧ y ≤ 8) (HC : ∀ (A : Option Addr) (n q : Nat) (_ : (n : Int) = kWant k y) W, Calls Try.prog 11 #[x.val, .agg #[.int .u8 k, .int .i64 a, .int .i64 y, .slice A n q]] W fun e w' => e = .returned (.int .i64 fv) ∧ Below W.heap.size W w') (hk : 1 ≤ k ∧ k ≤ 6) (g4 : (k == 4) = false) (g6 : (k == 6) = true) (h1 : a < 0) (h2 : (a == 0) = false) (hf : fv = 2) (w : World) : Calls Try.prog 3 #[x.val, .int .u8 k, .int .i64 a, .int .i64 y] w fun e w' => e = .returned (.bool true) ∧ Below w.heap.size w w' := by
  subst hf
  have HB := Lib.hid (blocks_ok x hx)
  have HAS := Lib.hid (ask_any k a y hy)
  have HCK := Lib.hid HC
  have hcr := Cfg.crm hx
  clear HC hx
  obtain ⟨id, m, c, r, l, h⟩ := x
  unfold Cfg.val at *
  dsimp only at *
  generalize c * r * (m - 1) = nb at *
  obtain ⟨hn1, hn2⟩ := hcr
  obtain ⟨hy0, hy1⟩ := hy
  obtain ⟨hk1, hk2⟩ := hk
  go_enter Try.func3, Try.ntmps3
  go_wp2_with fail
  have A0 := BoxOf.new w #[.int .u32 (id : Int), .int .i64 m, .int .i64 c, .int .i64 r, .int .i64 l, .int .i64 h] 24
  have t0 := Ext.alloc (Below.refl w.heap.size w) (.cells #[.int .u32 (id : Int), .int .i64 m, .int .i64 c, .int .i64 r, .int .i64 l, .int .i64 h] 24)
  refine (spalive_any _).mono ?_
  rintro e w1 ⟨rfl, b1⟩
  have A1 := A0.next b1
  have t1 := Ext.trans t0 b1
  have x1 := A1.cell
  clear A0 t0 b1
  go_wp2_with fail
  refine (HB.out _).mono ?_
  rintro e w2 ⟨rfl, b2⟩
  have A2 := A1.next b2
  have t2 := Ext.trans t1 b2
  have x2 := A2.cell
  clear A1 t1 b2 x1
  go_wp2_with fail
  go_region_held3 (fun w' => Below w.heap.size w w' ∧ BoxOf w' w.heap.size #[.int .u32 (id : Int), .int .i64 m, .int .i64 c, .int .i64 r, .int .i64 l, .int .i64 h] 24 ∧ ∀ o, w'.cell? ⟨w.heap.size, o, none⟩ = #[.int .u32 (id : Int), .int .i64 m, .int .i64 c, .int .i64 r, .int .i64 l, .int .i64 h].toList[o]?)
    (first | exact ⟨Ext.drew t2, A2.drew, x2⟩ | exact ⟨Ext.trans (And.left (by assumption)) k3, BoxOf.next (And.left (And.right (by assumption))) k3, (BoxOf.next (And.left (And.right (by assumption))) k3).cell⟩ | assumption)
    (first | (go_at_call 12; refine (HAS.out _).mono ?_; rintro e w3 ⟨AA, nn, qq, rfl, hn, k3⟩) | (go_at_call 11; refine (HCK.out AA nn qq hn _).mono ?_; rintro e w4 ⟨rfl, k3⟩))
  rename_i hH
  obtain ⟨bH, _⟩ := hH
  clear x2 A2 t2
  go_wp2
  go_ret
  exact ⟨rfl, bH⟩

set_option maxRecDepth 100000 in
set_option maxHeartbeats 400000 in
theorem kinds_w62 (x : Cfg) (hx : x.Ok) (k a y fv : Int) (hy : 0 ≤ y ∧ y ≤ 8) (HC : ∀ (A : Option Addr) (n q : Nat) (_ : (n : Int) = kWant k y) W, Calls Try.prog 11 #[x.val, .agg #[.int .u8 k, .int .i64 a, .int .i64 y, .slice A n q]] W fun e w' => e = .returned (.int .i64 fv) ∧ Below W.heap.size W w') (hk : 1 ≤ k ∧ k ≤ 6) (g4 : (k == 4) = false) (g6 : (k == 6) = true) (h1 : 0 ≤ a) (h2 : y < 1) (h3 : (a == 0) = false) (hf : fv = 2) (w : World) : Calls Try.prog 3 #[x.val, .int .u8 k, .int .i64 a, .int .i64 y] w fun e w' => e = .returned (.bool true) ∧ Below w.heap.size w w' := by
  subst hf
  have HB := Lib.hid (blocks_ok x hx)
  have HAS := Lib.hid (ask_any k a y hy)
  have HCK := Lib.hid HC
  have hcr := Cfg.crm hx
  clear HC hx
  obtain ⟨id, m, c, r, l, h⟩ := x
  unfold Cfg.val at *
  dsimp only at *
  generalize c * r * (m - 1) = nb at *
  obtain ⟨hn1, hn2⟩ := hcr
  obtain ⟨hy0, hy1⟩ := hy
  obtain ⟨hk1, hk2⟩ := hk
  go_enter Try.func3, Try.ntmps3
  go_wp2_with fail
  have A0 := BoxOf.new w #[.int .u32 (id : Int), .int .i64 m, .int .i64 c, .int .i64 r, .int .i64 l, .int .i64 h] 24
  have t0 := Ext.alloc (Below.refl w.heap.size w) (.cells #[.int .u32 (id : Int), .int .i64 m, .int .i64 c, .int .i64 r, .int .i64 l, .int .i64 h] 24)
  refine (spalive_any _).mono ?_
  rintro e w1 ⟨rfl, b1⟩
  have A1 := A0.next b1
  have t1 := Ext.trans t0 b1
  have x1 := A1.cell
  clear A0 t0 b1
  go_wp2_with fail
  refine (HB.out _).mono ?_
  rintro e w2 ⟨rfl, b2⟩
  have A2 := A1.next b2
  have t2 := Ext.trans t1 b2
  have x2 := A2.cell
  clear A1 t1 b2 x1
  go_wp2_with fail
  go_region_held3 (fun w' => Below w.heap.size w w' ∧ BoxOf w' w.heap.size #[.int .u32 (id : Int), .int .i64 m, .int .i64 c, .int .i64 r, .int .i64 l, .int .i64 h] 24 ∧ ∀ o, w'.cell? ⟨w.heap.size, o, none⟩ = #[.int .u32 (id : Int), .int .i64 m, .int .i64 c, .int .i64 r, .int .i64 l, .int .i64 h].toList[o]?)
    (first | exact ⟨Ext.drew t2, A2.drew, x2⟩ | exact ⟨Ext.trans (And.left (by assumption)) k3, BoxOf.next (And.left (And.right (by assumption))) k3, (BoxOf.next (And.left (And.right (by assumption))) k3).cell⟩ | assumption)
    (first | (go_at_call 12; refine (HAS.out _).mono ?_; rintro e w3 ⟨AA, nn, qq, rfl, hn, k3⟩) | (go_at_call 11; refine (HCK.out AA nn qq hn _).mono ?_; rintro e w4 ⟨rfl, k3⟩))
  rename_i hH
  obtain ⟨bH, _⟩ := hH
  clear x2 A2 t2
  go_wp2
  go_ret
  exact ⟨rfl, bH⟩

set_option maxRecDepth 100000 in
set_option maxHeartbeats 400000 in
theorem kinds_w63 (x : Cfg) (hx : x.Ok) (k a y fv : Int) (hy : 0 ≤ y ∧ y ≤ 8) (HC : ∀ (A : Option Addr) (n q : Nat) (_ : (n : Int) = kWant k y) W, Calls Try.prog 11 #[x.val, .agg #[.int .u8 k, .int .i64 a, .int .i64 y, .slice A n q]] W fun e w' => e = .returned (.int .i64 fv) ∧ Below W.heap.size W w') (hk : 1 ≤ k ∧ k ≤ 6) (g4 : (k == 4) = false) (g6 : (k == 6) = true) (h1 : 0 ≤ a) (h2 : y < 1) (h3 : (a == 0) = true) (h4 : (y == 0) = true) (hf : fv = 0) (w : World) : Calls Try.prog 3 #[x.val, .int .u8 k, .int .i64 a, .int .i64 y] w fun e w' => e = .returned (.bool true) ∧ Below w.heap.size w w' := by
  subst hf
  have HB := Lib.hid (blocks_ok x hx)
  have HAS := Lib.hid (ask_any k a y hy)
  have HCK := Lib.hid HC
  have hcr := Cfg.crm hx
  clear HC hx
  obtain ⟨id, m, c, r, l, h⟩ := x
  unfold Cfg.val at *
  dsimp only at *
  generalize c * r * (m - 1) = nb at *
  obtain ⟨hn1, hn2⟩ := hcr
  obtain ⟨hy0, hy1⟩ := hy
  obtain ⟨hk1, hk2⟩ := hk
  go_enter Try.func3, Try.ntmps3
  go_wp2_with fail
  have A0 := BoxOf.new w #[.int .u32 (id : Int), .int .i64 m, .int .i64 c, .int .i64 r, .int .i64 l, .int .i64 h] 24
  have t0 := Ext.alloc (Below.refl w.heap.size w) (.cells #[.int .u32 (id : Int), .int .i64 m, .int .i64 c, .int .i64 r, .int .i64 l, .int .i64 h] 24)
  refine (spalive_any _).mono ?_
  rintro e w1 ⟨rfl, b1⟩
  have A1 := A0.next b1
  have t1 := Ext.trans t0 b1
  have x1 := A1.cell
  clear A0 t0 b1
  go_wp2_with fail
  refine (HB.out _).mono ?_
  rintro e w2 ⟨rfl, b2⟩
  have A2 := A1.next b2
  have t2 := Ext.trans t1 b2
  have x2 := A2.cell
  clear A1 t1 b2 x1
  go_wp2_with fail
  go_region_held3 (fun w' => Below w.heap.size w w' ∧ BoxOf w' w.heap.size #[.int .u32 (id : Int), .int .i64 m, .int .i64 c, .int .i64 r, .int .i64 l, .int .i64 h] 24 ∧ ∀ o, w'.cell? ⟨w.heap.size, o, none⟩ = #[.int .u32 (id : Int), .int .i64 m, .int .i64 c, .int .i64 r, .int .i64 l, .int .i64 h].toList[o]?)
    (first | exact ⟨Ext.drew t2, A2.drew, x2⟩ | exact ⟨Ext.trans (And.left (by assumption)) k3, BoxOf.next (And.left (And.right (by assumption))) k3, (BoxOf.next (And.left (And.right (by assumption))) k3).cell⟩ | assumption)
    (first | (go_at_call 12; refine (HAS.out _).mono ?_; rintro e w3 ⟨AA, nn, qq, rfl, hn, k3⟩) | (go_at_call 11; refine (HCK.out AA nn qq hn _).mono ?_; rintro e w4 ⟨rfl, k3⟩))
  rename_i hH
  obtain ⟨bH, _⟩ := hH
  clear x2 A2 t2
  go_wp2
  go_ret
  exact ⟨rfl, bH⟩

set_option maxRecDepth 100000 in
set_option maxHeartbeats 400000 in
theorem kinds_w64 (x : Cfg) (hx : x.Ok) (k a y fv : Int) (hy : 0 ≤ y ∧ y ≤ 8) (HC : ∀ (A : Option Addr) (n q : Nat) (_ : (n : Int) = kWant k y) W, Calls Try.prog 11 #[x.val, .agg #[.int .u8 k, .int .i64 a, .int .i64 y, .slice A n q]] W fun e w' => e = .returned (.int .i64 fv) ∧ Below W.heap.size W w') (hk : 1 ≤ k ∧ k ≤ 6) (g4 : (k == 4) = false) (g6 : (k == 6) = true) (h1 : 0 ≤ a) (h2 : 1 ≤ y) (h5 : a ≤ x.c * x.r * (x.m - 1) - y ∨ x.c * x.r * (x.m - 1) - y < a) (h3 : (a == 0) = false) (hf : fv = 2) (w : World) : Calls Try.prog 3 #[x.val, .int .u8 k, .int .i64 a, .int .i64 y] w fun e w' => e = .returned (.bool true) ∧ Below w.heap.size w w' := by
  subst hf
  have HB := Lib.hid (blocks_ok x hx)
  have HAS := Lib.hid (ask_any k a y hy)
  have HCK := Lib.hid HC
  have hcr := Cfg.crm hx
  clear HC hx
  obtain ⟨id, m, c, r, l, h⟩ := x
  unfold Cfg.val at *
  dsimp only at *
  generalize c * r * (m - 1) = nb at *
  obtain ⟨hn1, hn2⟩ := hcr
  obtain ⟨hy0, hy1⟩ := hy
  obtain ⟨hk1, hk2⟩ := hk
  rcases h5 with h5 | h5
  all_goals
    go_enter Try.func3, Try.ntmps3
    go_wp2_with fail
    have A0 := BoxOf.new w #[.int .u32 (id : Int), .int .i64 m, .int .i64 c, .int .i64 r, .int .i64 l, .int .i64 h] 24
    have t0 := Ext.alloc (Below.refl w.heap.size w) (.cells #[.int .u32 (id : Int), .int .i64 m, .int .i64 c, .int .i64 r, .int .i64 l, .int .i64 h] 24)
    refine (spalive_any _).mono ?_
    rintro e w1 ⟨rfl, b1⟩
    have A1 := A0.next b1
    have t1 := Ext.trans t0 b1
    have x1 := A1.cell
    clear A0 t0 b1
    go_wp2_with fail
    refine (HB.out _).mono ?_
    rintro e w2 ⟨rfl, b2⟩
    have A2 := A1.next b2
    have t2 := Ext.trans t1 b2
    have x2 := A2.cell
    clear A1 t1 b2 x1
    go_wp2_with fail
    go_region_held3 (fun w' => Below w.heap.size w w' ∧ BoxOf w' w.heap.size #[.int .u32 (id : Int), .int .i64 m, .int .i64 c, .int .i64 r, .int .i64 l, .int .i64 h] 24 ∧ ∀ o, w'.cell? ⟨w.heap.size, o, none⟩ = #[.int .u32 (id : Int), .int .i64 m, .int .i64 c, .int .i64 r, .int .i64 l, .int .i64 h].toList[o]?)
      (first | exact ⟨Ext.drew t2, A2.drew, x2⟩ | exact ⟨Ext.trans (And.left (by assumption)) k3, BoxOf.next (And.left (And.right (by assumption))) k3, (BoxOf.next (And.left (And.right (by assumption))) k3).cell⟩ | assumption)
      (first | (go_at_call 12; refine (HAS.out _).mono ?_; rintro e w3 ⟨AA, nn, qq, rfl, hn, k3⟩) | (go_at_call 11; refine (HCK.out AA nn qq hn _).mono ?_; rintro e w4 ⟨rfl, k3⟩))
    rename_i hH
    obtain ⟨bH, _⟩ := hH
    clear x2 A2 t2
    go_wp2
    go_ret
    exact ⟨rfl, bH⟩

set_option maxRecDepth 100000 in
set_option maxHeartbeats 400000 in
theorem kinds_w65 (x : Cfg) (hx : x.Ok) (k a y fv : Int) (hy : 0 ≤ y ∧ y ≤ 8) (HC : ∀ (A : Option Addr) (n q : Nat) (_ : (n : Int) = kWant k y) W, Calls Try.prog 11 #[x.val, .agg #[.int .u8 k, .int .i64 a, .int .i64 y, .slice A n q]] W fun e w' => e = .returned (.int .i64 fv) ∧ Below W.heap.size W w') (hk : 1 ≤ k ∧ k ≤ 6) (g4 : (k == 4) = false) (g6 : (k == 6) = true) (h1 : 0 ≤ a) (h2 : 1 ≤ y) (h5 : a ≤ x.c * x.r * (x.m - 1) - y ∨ x.c * x.r * (x.m - 1) - y < a) (h3 : (a == 0) = true) (h4 : (y == 0) = false) (hf : fv = 2) (w : World) : Calls Try.prog 3 #[x.val, .int .u8 k, .int .i64 a, .int .i64 y] w fun e w' => e = .returned (.bool true) ∧ Below w.heap.size w w' := by
  subst hf
  have HB := Lib.hid (blocks_ok x hx)
  have HAS := Lib.hid (ask_any k a y hy)
  have HCK := Lib.hid HC
  have hcr := Cfg.crm hx
  clear HC hx
  obtain ⟨id, m, c, r, l, h⟩ := x
  unfold Cfg.val at *
  dsimp only at *
  generalize c * r * (m - 1) = nb at *
  obtain ⟨hn1, hn2⟩ := hcr
  obtain ⟨hy0, hy1⟩ := hy
  obtain ⟨hk1, hk2⟩ := hk
  rcases h5 with h5 | h5
  all_goals
    go_enter Try.func3, Try.ntmps3
    go_wp2_with fail
    have A0 := BoxOf.new w #[.int .u32 (id : Int), .int .i64 m, .int .i64 c, .int .i64 r, .int .i64 l, .int .i64 h] 24
    have t0 := Ext.alloc (Below.refl w.heap.size w) (.cells #[.int .u32 (id : Int), .int .i64 m, .int .i64 c, .int .i64 r, .int .i64 l, .int .i64 h] 24)
    refine (spalive_any _).mono ?_
    rintro e w1 ⟨rfl, b1⟩
    have A1 := A0.next b1
    have t1 := Ext.trans t0 b1
    have x1 := A1.cell
    clear A0 t0 b1
    go_wp2_with fail
    refine (HB.out _).mono ?_
    rintro e w2 ⟨rfl, b2⟩
    have A2 := A1.next b2
    have t2 := Ext.trans t1 b2
    have x2 := A2.cell
    clear A1 t1 b2 x1
    go_wp2_with fail
    go_region_held3 (fun w' => Below w.heap.size w w' ∧ BoxOf w' w.heap.size #[.int .u32 (id : Int), .int .i64 m, .int .i64 c, .int .i64 r, .int .i64 l, .int .i64 h] 24 ∧ ∀ o, w'.cell? ⟨w.heap.size, o, none⟩ = #[.int .u32 (id : Int), .int .i64 m, .int .i64 c, .int .i64 r, .int .i64 l, .int .i64 h].toList[o]?)
      (first | exact ⟨Ext.drew t2, A2.drew, x2⟩ | exact ⟨Ext.trans (And.left (by assumption)) k3, BoxOf.next (And.left (And.right (by assumption))) k3, (BoxOf.next (And.left (And.right (by assumption))) k3).cell⟩ | assumption)
      (first | (go_at_call 12; refine (HAS.out _).mono ?_; rintro e w3 ⟨AA, nn, qq, rfl, hn, k3⟩) | (go_at_call 11; refine (HCK.out AA nn qq hn _).mono ?_; rintro e w4 ⟨rfl, k3⟩))
    rename_i hH
    obtain ⟨bH, _⟩ := hH
    clear x2 A2 t2
    go_wp2
    go_ret
    exact ⟨rfl, bH⟩

set_option maxRecDepth 100000 in
set_option maxHeartbeats 400000 in
theorem kinds_d1 (x : Cfg) (hx : x.Ok) (k a y fv : Int) (hy : 0 ≤ y ∧ y ≤ 8) (HC : ∀ (A : Option Addr) (n q : Nat) (_ : (n : Int) = kWant k y) W, Calls Try.prog 11 #[x.val, .agg #[.int .u8 k, .int .i64 a, .int .i64 y, .slice A n q]] W fun e w' => e = .returned (.int .i64 fv) ∧ Below W.heap.size W w') (hk : 1 ≤ k ∧ k ≤ 6) (g4 : (k == 4) = false) (g6 : (k == 6) = false) (h1 : a < 0) (hf : fv = 2) (w : World) : Calls Try.prog 3 #[x.val, .int .u8 k, .int .i64 a, .int .i64 y] w fun e w' => e = .returned (.bool true) ∧ Below w.heap.size w w' := by
  subst hf
  have HB := Lib.hid (blocks_ok x hx)
  have HAS := Lib.hid (ask_any k a y hy)
  have HCK := Lib.hid HC
  have hcr := Cfg.crm hx
  clear HC hx
  obtain ⟨id, m, c, r, l, h⟩ := x
  unfold Cfg.val at *
  dsimp only at *
  generalize c * r * (m - 1) = nb at *
  obtain ⟨hn1, hn2⟩ := hcr
  obtain ⟨hy0, hy1⟩ := hy
  obtain ⟨hk1, hk2⟩ := hk
  go_enter Try.func3, Try.ntmps3
  go_wp2_with fail
  have A0 := BoxOf.new w #[.int .u32 (id : Int), .int .i64 m, .int .i64 c, .int .i64 r, .int .i64 l, .int .i64 h] 24
  have t0 := Ext.alloc (Below.refl w.heap.size w) (.cells #[.int .u32 (id : Int), .int .i64 m, .int .i64 c, .int .i64 r, .int .i64 l, .int .i64 h] 24)
  refine (spalive_any _).mono ?_
  rintro e w1 ⟨rfl, b1⟩
  have A1 := A0.next b1
  have t1 := Ext.trans t0 b1
  have x1 := A1.cell
  clear A0 t0 b1
  go_wp2_with fail
  refine (HB.out _).mono ?_
  rintro e w2 ⟨rfl, b2⟩
  have A2 := A1.next b2
  have t2 := Ext.trans t1 b2
  have x2 := A2.cell
  clear A1 t1 b2 x1
  go_wp2_with fail
  go_region_held3 (fun w' => Below w.heap.size w w' ∧ BoxOf w' w.heap.size #[.int .u32 (id : Int), .int .i64 m, .int .i64 c, .int .i64 r, .int .i64 l, .int .i64 h] 24 ∧ ∀ o, w'.cell? ⟨w.heap.size, o, none⟩ = #[.int .u32 (id : Int), .int .i64 m, .int .i64 c, .int .i64 r, .int .i64 l, .int .i64 h].toList[o]?)
    (first | exact ⟨Ext.drew t2, A2.drew, x2⟩ | exact ⟨Ext.trans (And.left (by assumption)) k3, BoxOf.next (And.left (And.right (by assumption))) k3, (BoxOf.next (And.left (And.right (by assumption))) k3).cell⟩ | assumption)
    (first | (go_at_call 12; refine (HAS.out _).mono ?_; rintro e w3 ⟨AA, nn, qq, rfl, hn, k3⟩) | (go_at_call 11; refine (HCK.out AA nn qq hn _).mono ?_; rintro e w4 ⟨rfl, k3⟩))
  rename_i hH
  obtain ⟨bH, _⟩ := hH
  clear x2 A2 t2
  go_wp2
  go_ret
  exact ⟨rfl, bH⟩

set_option maxRecDepth 100000 in
set_option maxHeartbeats 400000 in
theorem kinds_d2 (x : Cfg) (hx : x.Ok) (k a y fv : Int) (hy : 0 ≤ y ∧ y ≤ 8) (HC : ∀ (A : Option Addr) (n q : Nat) (_ : (n : Int) = kWant k y) W, Calls Try.prog 11 #[x.val, .agg #[.int .u8 k, .int .i64 a, .int .i64 y, .slice A n q]] W fun e w' => e = .returned (.int .i64 fv) ∧ Below W.heap.size W w') (hk : 1 ≤ k ∧ k ≤ 6) (g4 : (k == 4) = false) (g6 : (k == 6) = false) (h1 : 0 ≤ a) (h2 : y < 1) (hf : fv = 2) (w : World) : Calls Try.prog 3 #[x.val, .int .u8 k, .int .i64 a, .int .i64 y] w fun e w' => e = .returned (.bool true) ∧ Below w.heap.size w w' := by
  subst hf
  have HB := Lib.hid (blocks_ok x hx)
  have HAS := Lib.hid (ask_any k a y hy)
  have HCK := Lib.hid HC
  have hcr := Cfg.crm hx
  clear HC hx
  obtain ⟨id, m, c, r, l, h⟩ := x
  unfold Cfg.val at *
  dsimp only at *
  generalize c * r * (m - 1) = nb at *
  obtain ⟨hn1, hn2⟩ := hcr
  obtain ⟨hy0, hy1⟩ := hy
  obtain ⟨hk1, hk2⟩ := hk
  go_enter Try.func3, Try.ntmps3
  go_wp2_with fail
  have A0 := BoxOf.new w #[.int .u32 (id : Int), .int .i64 m, .int .i64 c, .int .i64 r, .int .i64 l, .int .i64 h] 24
  have t0 := Ext.alloc (Below.refl w.heap.size w) (.cells #[.int .u32 (id : Int), .int .i64 m, .int .i64 c, .int .i64 r, .int .i64 l, .int .i64 h] 24)
  refine (spalive_any _).mono ?_
  rintro e w1 ⟨rfl, b1⟩
  have A1 := A0.next b1
  have t1 := Ext.trans t0 b1
  have x1 := A1.cell
  clear A0 t0 b1
  go_wp2_with fail
  refine (HB.out _).mono ?_
  rintro e w2 ⟨rfl, b2⟩
  have A2 := A1.next b2
  have t2 := Ext.trans t1 b2
  have x2 := A2.cell
  clear A1 t1 b2 x1
  go_wp2_with fail
  go_region_held3 (fun w' => Below w.heap.size w w' ∧ BoxOf w' w.heap.size #[.int .u32 (id : Int), .int .i64 m, .int .i64 c, .int .i64 r, .int .i64 l, .int .i64 h] 24 ∧ ∀ o, w'.cell? ⟨w.heap.size, o, none⟩ = #[.int .u32 (id : Int), .int .i64 m, .int .i64 c, .int .i64 r, .int .i64 l, .int .i64 h].toList[o]?)
    (first | exact ⟨Ext.drew t2, A2.drew, x2⟩ | exact ⟨Ext.trans (And.left (by assumption)) k3, BoxOf.next (And.left (And.right (by assumption))) k3, (BoxOf.next (And.left (And.right (by assumption))) k3).cell⟩ | assumption)
    (first | (go_at_call 12; refine (HAS.out _).mono ?_; rintro e w3 ⟨AA, nn, qq, rfl, hn, k3⟩) | (go_at_call 11; refine (HCK.out AA nn qq hn _).mono ?_; rintro e w4 ⟨rfl, k3⟩))
  rename_i hH
  obtain ⟨bH, _⟩ := hH
  clear x2 A2 t2
  go_wp2
  go_ret
  exact ⟨rfl, bH⟩

set_option maxRecDepth 100000 in
set_option maxHeartbeats 400000 in
theorem kinds_d3 (x : Cfg) (hx : x.Ok) (k a y fv : Int) (hy : 0 ≤ y ∧ y ≤ 8) (HC : ∀ (A : Option Addr) (n q : Nat) (_ : (n : Int) = kWant k y) W, Calls Try.prog 11 #[x.val, .agg #[.int .u8 k, .int .i64 a, .int .i64 y, .slice A n q]] W fun e w' => e = .returned (.int .i64 fv) ∧ Below W.heap.size W w') (hk : 1 ≤ k ∧ k ≤ 6) (g4 : (k == 4) = false) (g6 : (k == 6) = false) (h1 : 0 ≤ a) (h2 : 1 ≤ y) (h3 : a ≤ x.c * x.r * (x.m - 1) - y) (hf : fv = 0) (w : World) : Calls Try.prog 3 #[x.val, .int .u8 k, .int .i64 a, .int .i64 y] w fun e w' => e = .returned (.bool true) ∧ Below w.heap.size w w' := by
  subst hf
  have HB := Lib.hid (blocks_ok x hx)
  have HAS := Lib.hid (ask_any k a y hy)
  have HCK := Lib.hid HC
  have hcr := Cfg.crm hx
  clear HC hx
  obtain ⟨id, m, c, r, l, h⟩ := x
  unfold Cfg.val at *
  dsimp only at *
  generalize c * r * (m - 1) = nb at *
  obtain ⟨hn1, hn2⟩ := hcr
  obtain ⟨hy0, hy1⟩ := hy
  obtain ⟨hk1, hk2⟩ := hk
  go_enter Try.func3, Try.ntmps3
  go_wp2_with fail
  have A0 := BoxOf.new w #[.int .u32 (id : Int), .int .i64 m, .int .i64 c, .int .i64 r, .int .i64 l, .int .i64 h] 24
  have t0 := Ext.alloc (Below.refl w.heap.size w) (.cells #[.int .u32 (id : Int), .int .i64 m, .int .i64 c, .int .i64 r, .int .i64 l, .int .i64 h] 24)
  refine (spalive_any _).mono ?_
  rintro e w1 ⟨rfl, b1⟩
  have A1 := A0.next b1
  have t1 := Ext.trans t0 b1
  have x1 := A1.cell
  clear A0 t0 b1
  go_wp2_with fail
  refine (HB.out _).mono ?_
  rintro e w2 ⟨rfl, b2⟩
  have A2 := A1.next b2
  have t2 := Ext.trans t1 b2
  have x2 := A2.cell
  clear A1 t1 b2 x1
  go_wp2_with fail
  go_region_held3 (fun w' => Below w.heap.size w w' ∧ BoxOf w' w.heap.size #[.int .u32 (id : Int), .int .i64 m, .int .i64 c, .int .i64 r, .int .i64 l, .int .i64 h] 24 ∧ ∀ o, w'.cell? ⟨w.heap.size, o, none⟩ = #[.int .u32 (id : Int), .int .i64 m, .int .i64 c, .int .i64 r, .int .i64 l, .int .i64 h].toList[o]?)
    (first | exact ⟨Ext.drew t2, A2.drew, x2⟩ | exact ⟨Ext.trans (And.left (by assumption)) k3, BoxOf.next (And.left (And.right (by assumption))) k3, (BoxOf.next (And.left (And.right (by assumption))) k3).cell⟩ | assumption)
    (first | (go_at_call 12; refine (HAS.out _).mono ?_; rintro e w3 ⟨AA, nn, qq, rfl, hn, k3⟩) | (go_at_call 11; refine (HCK.out AA nn qq hn _).mono ?_; rintro e w4 ⟨rfl, k3⟩))
  rename_i hH
  obtain ⟨bH, _⟩ := hH
  clear x2 A2 t2
  go_wp2
  go_ret
  exact ⟨rfl, bH⟩

set_option maxRecDepth 100000 in
set_option maxHeartbeats 400000 in
theorem kinds_d4 (x : Cfg) (hx : x.Ok) (k a y fv : Int) (hy : 0 ≤ y ∧ y ≤ 8) (HC : ∀ (A : Option Addr) (n q : Nat) (_ : (n : Int) = kWant k y) W, Calls Try.prog 11 #[x.val, .agg #[.int .u8 k, .int .i64 a, .int .i64 y, .slice A n q]] W fun e w' => e = .returned (.int .i64 fv) ∧ Below W.heap.size W w') (hk : 1 ≤ k ∧ k ≤ 6) (g4 : (k == 4) = false) (g6 : (k == 6) = false) (h1 : 0 ≤ a) (h2 : 1 ≤ y) (h3 : x.c * x.r * (x.m - 1) - y < a) (hf : fv = 2) (w : World) : Calls Try.prog 3 #[x.val, .int .u8 k, .int .i64 a, .int .i64 y] w fun e w' => e = .returned (.bool true) ∧ Below w.heap.size w w' := by
  subst hf
  have HB := Lib.hid (blocks_ok x hx)
  have HAS := Lib.hid (ask_any k a y hy)
  have HCK := Lib.hid HC
  have hcr := Cfg.crm hx
  clear HC hx
  obtain ⟨id, m, c, r, l, h⟩ := x
  unfold Cfg.val at *
  dsimp only at *
  generalize c * r * (m - 1) = nb at *
  obtain ⟨hn1, hn2⟩ := hcr
  obtain ⟨hy0, hy1⟩ := hy
  obtain ⟨hk1, hk2⟩ := hk
  have d4 : decide (a ≤ nb - y) = false := decide_eq_false (by omega)
  go_enter Try.func3, Try.ntmps3
  go_wp2_with fail
  have A0 := BoxOf.new w #[.int .u32 (id : Int), .int .i64 m, .int .i64 c, .int .i64 r, .int .i64 l, .int .i64 h] 24
  have t0 := Ext.alloc (Below.refl w.heap.size w) (.cells #[.int .u32 (id : Int), .int .i64 m, .int .i64 c, .int .i64 r, .int .i64 l, .int .i64 h] 24)
  refine (spalive_any _).mono ?_
  rintro e w1 ⟨rfl, b1⟩
  have A1 := A0.next b1
  have t1 := Ext.trans t0 b1
  have x1 := A1.cell
  clear A0 t0 b1
  go_wp2_with fail
  refine (HB.out _).mono ?_
  rintro e w2 ⟨rfl, b2⟩
  have A2 := A1.next b2
  have t2 := Ext.trans t1 b2
  have x2 := A2.cell
  clear A1 t1 b2 x1
  go_wp2_with fail
  go_region_held3 (fun w' => Below w.heap.size w w' ∧ BoxOf w' w.heap.size #[.int .u32 (id : Int), .int .i64 m, .int .i64 c, .int .i64 r, .int .i64 l, .int .i64 h] 24 ∧ ∀ o, w'.cell? ⟨w.heap.size, o, none⟩ = #[.int .u32 (id : Int), .int .i64 m, .int .i64 c, .int .i64 r, .int .i64 l, .int .i64 h].toList[o]?)
    (first | exact ⟨Ext.drew t2, A2.drew, x2⟩ | exact ⟨Ext.trans (And.left (by assumption)) k3, BoxOf.next (And.left (And.right (by assumption))) k3, (BoxOf.next (And.left (And.right (by assumption))) k3).cell⟩ | assumption)
    (first | (go_at_call 12; refine (HAS.out _).mono ?_; rintro e w3 ⟨AA, nn, qq, rfl, hn, k3⟩) | (go_at_call 11; refine (HCK.out AA nn qq hn _).mono ?_; rintro e w4 ⟨rfl, k3⟩))
  rename_i hH
  obtain ⟨bH, _⟩ := hH
  clear x2 A2 t2
  go_wp2
  go_ret
  exact ⟨rfl, bH⟩

end Go.Proofs.Ytmoaflnggcbhkaa
