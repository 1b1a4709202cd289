/- Layer 8 (split): whether a request may be. -/
import Derived.Test.YtclbihcggjjgaaaSplit
namespace Go.Proofs.Ytclbihcggjjgaaa
open Go.RowKit
set_option linter.unusedSimpArgs false
set_option linter.unusedVariables false

def Placed (nb k a y : Int) : Prop := (kMost k = 8 ∧ 1 ≤ y ∧ y ≤ 8 ∧ 0 ≤ a ∧ a ≤ nb - y) ∨ (kIs k = true ∧ kMost k = 0 ∧ a = 0 ∧ y = 0)
theorem kMost_is {k : Int} (h : kMost k = 8) : kIs k = true := by
  unfold kMost at h
  split at h
  · exact decide_eq_true (by omega)
  · cases h
theorem kMost_or (k : Int) : kMost k = 8 ∨ (kMost k = 0 ∧ kBytes k = false ∧ kWrites k = false) := by
  unfold kMost
  split
  · exact .inl rfl
  · exact .inr ⟨rfl, decide_eq_false (by omega), decide_eq_false (by omega)⟩
def kWant (k y : Int) : Int := if kBytes k then y * 128 else 0

set_option maxRecDepth 100000 in
theorem scheck_bad (x : Cfg) (hx : ¬ x.Ok) (k a y : Int) (A : Option Addr) (n q : Nat) (w : World) :
    Calls Try.prog 47 #[x.val, .agg #[.int .u8 k, .int .i64 a, .int .i64 y, .slice A n q]] w fun e w' => e = .returned (.int .i64 8) ∧ Below w.heap.size w w' := by
  have HB := Lib.hid (blocks_bad x hx)
  obtain ⟨id, m, c, r, l, h⟩ := x
  unfold Cfg.val at *
  dsimp only at *
  all_goals
    go_enter Try.func47, Try.ntmps47
    go_wp2_with fail
    have A0 := BoxOf.new' (w.alloc (.cells #[.int .u32 (id : Int), .int .i64 m, .int .i64 c, .int .i64 r, .int .i64 l, .int .i64 h] 24)) (w.heap.size + 1) #[.int .u8 k, .int .i64 a, .int .i64 y, .slice A n q] 58 (by simp)
    have t0 := Ext.alloc (Ext.alloc (Below.refl w.heap.size w) (.cells #[.int .u32 (id : Int), .int .i64 m, .int .i64 c, .int .i64 r, .int .i64 l, .int .i64 h] 24)) (.cells #[.int .u8 k, .int .i64 a, .int .i64 y, .slice A n q] 58)
    refine (HB.out _).mono ?_
    rintro e w1 ⟨rfl, b1⟩
    have A1 := A0.next b1
    have t1 := Ext.trans t0 b1
    have x1 := A1.cell
    clear A0 t0 b1
    go_wp2
    go_ret
    exact ⟨rfl, t1⟩

set_option maxRecDepth 100000 in
set_option maxHeartbeats 1000000 in
theorem scheck_arg (x : Cfg) (hx : x.Ok) (k a y : Int) (A : Option Addr) (n q : Nat) (hp : ¬ Placed (x.c * x.r * (x.m - 1)) k a y) (w : World) :
    Calls Try.prog 47 #[x.val, .agg #[.int .u8 k, .int .i64 a, .int .i64 y, .slice A n q]] w fun e w' => e = .returned (.int .i64 2) ∧ Below w.heap.size w w' := by
  have HB := Lib.hid (blocks_ok x hx)
  have HO := Lib.hid (of_any k)
  have hcr := Cfg.crm hx
  have hor := kMost_or k
  have his := @kMost_is k
  unfold Placed at hp
  obtain ⟨id, m, c, r, l, h⟩ := x
  unfold Cfg.val at *
  dsimp only at *
  clear hx
  generalize c * r * (m - 1) = nb at *
  obtain ⟨hn1, hn2⟩ := hcr
  generalize kMost k = mo at *
  generalize kBytes k = by' at *
  generalize kWrites k = wr at *
  generalize kIs k = is at *
  rcases hor with rfl | ⟨rfl, rfl, rfl⟩
  · obtain rfl := his rfl
    rcases (show a < 0 ∨ (0 ≤ a ∧ y < 1) ∨ (0 ≤ a ∧ 8 < y) ∨ ((0 ≤ a ∧ 1 ≤ y ∧ y ≤ 8) ∧ nb - y < a) by omega) with h1 | ⟨h1, h2⟩ | ⟨h1, h2⟩ | ⟨⟨h1, h2, h3⟩, h4⟩
    all_goals
      clear his hp
      go_enter Try.func47, Try.ntmps47
      go_wp2_with fail
      have A0 := BoxOf.new' (w.alloc (.cells #[.int .u32 (id : Int), .int .i64 m, .int .i64 c, .int .i64 r, .int .i64 l, .int .i64 h] 24)) (w.heap.size + 1) #[.int .u8 k, .int .i64 a, .int .i64 y, .slice A n q] 58 (by simp)
      have t0 := Ext.alloc (Ext.alloc (Below.refl w.heap.size w) (.cells #[.int .u32 (id : Int), .int .i64 m, .int .i64 c, .int .i64 r, .int .i64 l, .int .i64 h] 24)) (.cells #[.int .u8 k, .int .i64 a, .int .i64 y, .slice A n q] 58)
      refine (HB.out _).mono ?_
      rintro e w1 ⟨rfl, b1⟩
      have A1 := A0.next b1
      have t1 := Ext.trans t0 b1
      have x1 := A1.cell
      clear A0 t0 b1
      go_wp2_with fail
      refine (HO.out _).mono ?_
      rintro e w2 ⟨rfl, b2⟩
      have A2 := A1.next b2
      have t2 := Ext.alloc (Ext.trans t1 b2) (.cells #[.int .i64 8, .bool by', .bool wr] 120)
      have x2 := A2.cell
      have l2 := A2.lt
      clear x1 A1 t1 b2 A2
      go_wp2
      go_ret
      exact ⟨rfl, t2⟩
  · cases is with
    | false =>
      clear his hp
      go_enter Try.func47, Try.ntmps47
      go_wp2_with fail
      have A0 := BoxOf.new' (w.alloc (.cells #[.int .u32 (id : Int), .int .i64 m, .int .i64 c, .int .i64 r, .int .i64 l, .int .i64 h] 24)) (w.heap.size + 1) #[.int .u8 k, .int .i64 a, .int .i64 y, .slice A n q] 58 (by simp)
      have t0 := Ext.alloc (Ext.alloc (Below.refl w.heap.size w) (.cells #[.int .u32 (id : Int), .int .i64 m, .int .i64 c, .int .i64 r, .int .i64 l, .int .i64 h] 24)) (.cells #[.int .u8 k, .int .i64 a, .int .i64 y, .slice A n q] 58)
      refine (HB.out _).mono ?_
      rintro e w1 ⟨rfl, b1⟩
      have A1 := A0.next b1
      have t1 := Ext.trans t0 b1
      have x1 := A1.cell
      clear A0 t0 b1
      go_wp2_with fail
      refine (HO.out _).mono ?_
      rintro e w2 ⟨rfl, b2⟩
      have A2 := A1.next b2
      have t2 := Ext.alloc (Ext.trans t1 b2) (.cells #[.int .i64 0, .bool false, .bool false] 120)
      have x2 := A2.cell
      have l2 := A2.lt
      clear x1 A1 t1 b2 A2
      go_wp2
      go_ret
      exact ⟨rfl, t2⟩
    | true =>
      have hp' : ¬ (a = 0 ∧ y = 0) := fun h => hp (.inr ⟨rfl, rfl, h⟩)
      rcases (show a < 0 ∨ (0 ≤ a ∧ y < 0) ∨ (0 ≤ a ∧ 0 < y) ∨ ((0 ≤ a ∧ 0 ≤ y ∧ y ≤ 0) ∧ nb < a) ∨ ((0 ≤ a ∧ 0 ≤ y ∧ y ≤ 0) ∧ a ≤ nb ∧ 0 < a) by omega) with h1 | ⟨h1, h2⟩ | ⟨h1, h2⟩ | ⟨⟨h1, h2, h3⟩, h4⟩ | ⟨⟨h1, h2, h3⟩, h4, h5⟩
      all_goals
        clear his hp hp'
        go_enter Try.func47, Try.ntmps47
        go_wp2_with fail
        have A0 := BoxOf.new' (w.alloc (.cells #[.int .u32 (id : Int), .int .i64 m, .int .i64 c, .int .i64 r, .int .i64 l, .int .i64 h] 24)) (w.heap.size + 1) #[.int .u8 k, .int .i64 a, .int .i64 y, .slice A n q] 58 (by simp)
        have t0 := Ext.alloc (Ext.alloc (Below.refl w.heap.size w) (.cells #[.int .u32 (id : Int), .int .i64 m, .int .i64 c, .int .i64 r, .int .i64 l, .int .i64 h] 24)) (.cells #[.int .u8 k, .int .i64 a, .int .i64 y, .slice A n q] 58)
        refine (HB.out _).mono ?_
        rintro e w1 ⟨rfl, b1⟩
        have A1 := A0.next b1
        have t1 := Ext.trans t0 b1
        have x1 := A1.cell
        clear A0 t0 b1
        go_wp2_with fail
        refine (HO.out _).mono ?_
        rintro e w2 ⟨rfl, b2⟩
        have A2 := A1.next b2
        have t2 := Ext.alloc (Ext.trans t1 b2) (.cells #[.int .i64 0, .bool false, .bool false] 120)
        have x2 := A2.cell
        have l2 := A2.lt
        clear x1 A1 t1 b2 A2
        go_wp2
        go_ret
        exact ⟨rfl, t2⟩

set_option maxRecDepth 100000 in
set_option maxHeartbeats 1000000 in
theorem scheck_text (x : Cfg) (hx : x.Ok) (k a y : Int) (A : Option Addr) (n q : Nat) (hp : Placed (x.c * x.r * (x.m - 1)) k a y) (hn : (n : Int) ≠ kWant k y) (w : World) :
    Calls Try.prog 47 #[x.val, .agg #[.int .u8 k, .int .i64 a, .int .i64 y, .slice A n q]] w fun e w' => e = .returned (.int .i64 3) ∧ Below w.heap.size w w' := by
  have HB := Lib.hid (blocks_ok x hx)
  have HO := Lib.hid (of_any k)
  have hcr := Cfg.crm hx
  have hor := kMost_or k
  have his := @kMost_is k
  unfold Placed at hp
  unfold kWant at hn
  obtain ⟨id, m, c, r, l, h⟩ := x
  unfold Cfg.val at *
  dsimp only at *
  clear hx
  generalize c * r * (m - 1) = nb at *
  obtain ⟨hn1, hn2⟩ := hcr
  generalize kMost k = mo at *
  generalize kBytes k = by' at *
  generalize kWrites k = wr at *
  generalize kIs k = is at *
  rcases hor with rfl | ⟨rfl, rfl, rfl⟩
  · obtain rfl := his rfl
    obtain ⟨h1, h2, h3, h4⟩ : 1 ≤ y ∧ y ≤ 8 ∧ 0 ≤ a ∧ a ≤ nb - y := by omega
    cases by' with
    | true =>
      have hne : ((n : Int) != y * 128) = true := by simp at hn ⊢; exact hn
      clear his hp hn
      go_enter Try.func47, Try.ntmps47
      go_wp2_with fail
      have A0 := BoxOf.new' (w.alloc (.cells #[.int .u32 (id : Int), .int .i64 m, .int .i64 c, .int .i64 r, .int .i64 l, .int .i64 h] 24)) (w.heap.size + 1) #[.int .u8 k, .int .i64 a, .int .i64 y, .slice A n q] 58 (by simp)
      have t0 := Ext.alloc (Ext.alloc (Below.refl w.heap.size w) (.cells #[.int .u32 (id : Int), .int .i64 m, .int .i64 c, .int .i64 r, .int .i64 l, .int .i64 h] 24)) (.cells #[.int .u8 k, .int .i64 a, .int .i64 y, .slice A n q] 58)
      refine (HB.out _).mono ?_
      rintro e w1 ⟨rfl, b1⟩
      have A1 := A0.next b1
      have t1 := Ext.trans t0 b1
      have x1 := A1.cell
      clear A0 t0 b1
      go_wp2_with fail
      refine (HO.out _).mono ?_
      rintro e w2 ⟨rfl, b2⟩
      have A2 := A1.next b2
      have t2 := Ext.alloc (Ext.trans t1 b2) (.cells #[.int .i64 8, .bool true, .bool wr] 120)
      have x2 := A2.cell
      have l2 := A2.lt
      clear x1 A1 t1 b2 A2
      go_wp2
      go_ret
      exact ⟨rfl, t2⟩
    | false =>
      have hne : ((n : Int) != 0) = true := by simp at hn ⊢; exact hn
      clear his hp hn
      go_enter Try.func47, Try.ntmps47
      go_wp2_with fail
      have A0 := BoxOf.new' (w.alloc (.cells #[.int .u32 (id : Int), .int .i64 m, .int .i64 c, .int .i64 r, .int .i64 l, .int .i64 h] 24)) (w.heap.size + 1) #[.int .u8 k, .int .i64 a, .int .i64 y, .slice A n q] 58 (by simp)
      have t0 := Ext.alloc (Ext.alloc (Below.refl w.heap.size w) (.cells #[.int .u32 (id : Int), .int .i64 m, .int .i64 c, .int .i64 r, .int .i64 l, .int .i64 h] 24)) (.cells #[.int .u8 k, .int .i64 a, .int .i64 y, .slice A n q] 58)
      refine (HB.out _).mono ?_
      rintro e w1 ⟨rfl, b1⟩
      have A1 := A0.next b1
      have t1 := Ext.trans t0 b1
      have x1 := A1.cell
      clear A0 t0 b1
      go_wp2_with fail
      refine (HO.out _).mono ?_
      rintro e w2 ⟨rfl, b2⟩
      have A2 := A1.next b2
      have t2 := Ext.alloc (Ext.trans t1 b2) (.cells #[.int .i64 8, .bool false, .bool wr] 120)
      have x2 := A2.cell
      have l2 := A2.lt
      clear x1 A1 t1 b2 A2
      go_wp2
      go_ret
      exact ⟨rfl, t2⟩
  · obtain ⟨rfl, ha, hy⟩ : is = true ∧ a = 0 ∧ y = 0 := hp.elim (fun h => absurd h.1 (by decide)) (fun h => ⟨h.1, h.2.2⟩)
    obtain ⟨ha1, ha2, hy1, hy2⟩ : 0 ≤ a ∧ a ≤ 0 ∧ 0 ≤ y ∧ y ≤ 0 := by omega
    clear ha hy
    have hne : ((n : Int) != 0) = true := by simp at hn ⊢; exact hn
    clear his hp hn
    go_enter Try.func47, Try.ntmps47
    go_wp2_with fail
    have A0 := BoxOf.new' (w.alloc (.cells #[.int .u32 (id : Int), .int .i64 m, .int .i64 c, .int .i64 r, .int .i64 l, .int .i64 h] 24)) (w.heap.size + 1) #[.int .u8 k, .int .i64 a, .int .i64 y, .slice A n q] 58 (by simp)
    have t0 := Ext.alloc (Ext.alloc (Below.refl w.heap.size w) (.cells #[.int .u32 (id : Int), .int .i64 m, .int .i64 c, .int .i64 r, .int .i64 l, .int .i64 h] 24)) (.cells #[.int .u8 k, .int .i64 a, .int .i64 y, .slice A n q] 58)
    refine (HB.out _).mono ?_
    rintro e w1 ⟨rfl, b1⟩
    have A1 := A0.next b1
    have t1 := Ext.trans t0 b1
    have x1 := A1.cell
    clear A0 t0 b1
    go_wp2_with fail
    refine (HO.out _).mono ?_
    rintro e w2 ⟨rfl, b2⟩
    have A2 := A1.next b2
    have t2 := Ext.alloc (Ext.trans t1 b2) (.cells #[.int .i64 0, .bool false, .bool false] 120)
    have x2 := A2.cell
    have l2 := A2.lt
    clear x1 A1 t1 b2 A2
    go_wp2
    go_ret
    exact ⟨rfl, t2⟩

set_option maxRecDepth 100000 in
set_option maxHeartbeats 1000000 in
theorem scheck_ok (x : Cfg) (hx : x.Ok) (k a y : Int) (A : Option Addr) (n q : Nat) (hp : Placed (x.c * x.r * (x.m - 1)) k a y) (hn : (n : Int) = kWant k y) (w : World) :
    Calls Try.prog 47 #[x.val, .agg #[.int .u8 k, .int .i64 a, .int .i64 y, .slice A n q]] w fun e w' => e = .returned (.int .i64 0) ∧ Below w.heap.size w w' := by
  have HB := Lib.hid (blocks_ok x hx)
  have HO := Lib.hid (of_any k)
  have hcr := Cfg.crm hx
  have hor := kMost_or k
  have his := @kMost_is k
  unfold Placed at hp
  unfold kWant at hn
  obtain ⟨id, m, c, r, l, h⟩ := x
  unfold Cfg.val at *
  dsimp only at *
  clear hx
  generalize c * r * (m - 1) = nb at *
  obtain ⟨hn1, hn2⟩ := hcr
  generalize kMost k = mo at *
  generalize kBytes k = by' at *
  generalize kWrites k = wr at *
  generalize kIs k = is at *
  rcases hor with rfl | ⟨rfl, rfl, rfl⟩
  · obtain rfl := his rfl
    obtain ⟨h1, h2, h3, h4⟩ : 1 ≤ y ∧ y ≤ 8 ∧ 0 ≤ a ∧ a ≤ nb - y := by omega
    cases by' with
    | true =>
      have hne : ((n : Int) != y * 128) = false := by simp at hn ⊢; exact hn
      clear his hp hn
      go_enter Try.func47, Try.ntmps47
      go_wp2_with fail
      have A0 := BoxOf.new' (w.alloc (.cells #[.int .u32 (id : Int), .int .i64 m, .int .i64 c, .int .i64 r, .int .i64 l, .int .i64 h] 24)) (w.heap.size + 1) #[.int .u8 k, .int .i64 a, .int .i64 y, .slice A n q] 58 (by simp)
      have t0 := Ext.alloc (Ext.alloc (Below.refl w.heap.size w) (.cells #[.int .u32 (id : Int), .int .i64 m, .int .i64 c, .int .i64 r, .int .i64 l, .int .i64 h] 24)) (.cells #[.int .u8 k, .int .i64 a, .int .i64 y, .slice A n q] 58)
      refine (HB.out _).mono ?_
      rintro e w1 ⟨rfl, b1⟩
      have A1 := A0.next b1
      have t1 := Ext.trans t0 b1
      have x1 := A1.cell
      clear A0 t0 b1
      go_wp2_with fail
      refine (HO.out _).mono ?_
      rintro e w2 ⟨rfl, b2⟩
      have A2 := A1.next b2
      have t2 := Ext.alloc (Ext.trans t1 b2) (.cells #[.int .i64 8, .bool true, .bool wr] 120)
      have x2 := A2.cell
      have l2 := A2.lt
      clear x1 A1 t1 b2 A2
      go_wp2
      go_ret
      exact ⟨rfl, t2⟩
    | false =>
      have hne : ((n : Int) != 0) = false := by simp at hn ⊢; exact hn
      clear his hp hn
      go_enter Try.func47, Try.ntmps47
      go_wp2_with fail
      have A0 := BoxOf.new' (w.alloc (.cells #[.int .u32 (id : Int), .int .i64 m, .int .i64 c, .int .i64 r, .int .i64 l, .int .i64 h] 24)) (w.heap.size + 1) #[.int .u8 k, .int .i64 a, .int .i64 y, .slice A n q] 58 (by simp)
      have t0 := Ext.alloc (Ext.alloc (Below.refl w.heap.size w) (.cells #[.int .u32 (id : Int), .int .i64 m, .int .i64 c, .int .i64 r, .int .i64 l, .int .i64 h] 24)) (.cells #[.int .u8 k, .int .i64 a, .int .i64 y, .slice A n q] 58)
      refine (HB.out _).mono ?_
      rintro e w1 ⟨rfl, b1⟩
      have A1 := A0.next b1
      have t1 := Ext.trans t0 b1
      have x1 := A1.cell
      clear A0 t0 b1
      go_wp2_with fail
      refine (HO.out _).mono ?_
      rintro e w2 ⟨rfl, b2⟩
      have A2 := A1.next b2
      have t2 := Ext.alloc (Ext.trans t1 b2) (.cells #[.int .i64 8, .bool false, .bool wr] 120)
      have x2 := A2.cell
      have l2 := A2.lt
      clear x1 A1 t1 b2 A2
      go_wp2
      go_ret
      exact ⟨rfl, t2⟩
  · obtain ⟨rfl, ha, hy⟩ : is = true ∧ a = 0 ∧ y = 0 := hp.elim (fun h => absurd h.1 (by decide)) (fun h => ⟨h.1, h.2.2⟩)
    obtain ⟨ha1, ha2, hy1, hy2⟩ : 0 ≤ a ∧ a ≤ 0 ∧ 0 ≤ y ∧ y ≤ 0 := by omega
    clear ha hy
    have hne : ((n : Int) != 0) = false := by simp at hn ⊢; exact hn
    clear his hp hn
    go_enter Try.func47, Try.ntmps47
    go_wp2_with fail
    have A0 := BoxOf.new' (w.alloc (.cells #[.int .u32 (id : Int), .int .i64 m, .int .i64 c, .int .i64 r, .int .i64 l, .int .i64 h] 24)) (w.heap.size + 1) #[.int .u8 k, .int .i64 a, .int .i64 y, .slice A n q] 58 (by simp)
    have t0 := Ext.alloc (Ext.alloc (Below.refl w.heap.size w) (.cells #[.int .u32 (id : Int), .int .i64 m, .int .i64 c, .int .i64 r, .int .i64 l, .int .i64 h] 24)) (.cells #[.int .u8 k, .int .i64 a, .int .i64 y, .slice A n q] 58)
    refine (HB.out _).mono ?_
    rintro e w1 ⟨rfl, b1⟩
    have A1 := A0.next b1
    have t1 := Ext.trans t0 b1
    have x1 := A1.cell
    clear A0 t0 b1
    go_wp2_with fail
    refine (HO.out _).mono ?_
    rintro e w2 ⟨rfl, b2⟩
    have A2 := A1.next b2
    have t2 := Ext.alloc (Ext.trans t1 b2) (.cells #[.int .i64 0, .bool false, .bool false] 120)
    have x2 := A2.cell
    have l2 := A2.lt
    clear x1 A1 t1 b2 A2
    go_wp2
    go_ret
    exact ⟨rfl, t2⟩
end Go.Proofs.Ytclbihcggjjgaaa
