/- Layer 10 (super): what a super may be: the statement. -/
import Derived.Test.YtgmlhfencidahaaSuper3
import Derived.Test.YtgmlhfencidahaaData
namespace Go.Proofs.Ytgmlhfencidahaa
open Go.RowKit
set_option linter.unusedSimpArgs false
set_option linter.unusedVariables false

theorem sup_open {w : World} {cs : List Value} {y : (Ty.st (.prod .u32 (.prod .u32 (.prod .u32 (.prod .int .unit))))).T} (h : Reads w (Ty.st (.prod .u32 (.prod .u32 (.prod .u32 (.prod .int .unit))))) y cs) :
    ∃ (id age sq : Nat) (t : Int), Value.agg cs.toArray = .agg #[.int .u32 (id : Int), .int .u32 (age : Int), .int .u32 (sq : Int), .int .i64 t] ∧ id < 4294967296 ∧ age < 4294967296 ∧ sq < 4294967296 ∧ IsInt t := by
  obtain ⟨id, age, sq, t, u⟩ := y
  obtain ⟨c0, d0, rfl, r0, h⟩ := reads_prod.1 (reads_st.1 h)
  obtain ⟨c1, d1, rfl, r1, h⟩ := reads_prod.1 h
  obtain ⟨c2, d2, rfl, r2, h⟩ := reads_prod.1 h
  obtain ⟨c3, d3, rfl, r3, h⟩ := reads_prod.1 h
  obtain rfl := reads_unit.1 h
  obtain ⟨rfl, i0⟩ := reads_u32.1 r0
  obtain ⟨rfl, i1⟩ := reads_u32.1 r1
  obtain ⟨rfl, i2⟩ := reads_u32.1 r2
  obtain ⟨rfl, i3⟩ := reads_int.1 r3
  exact ⟨id, age, sq, t, rfl, i0, i1, i2, i3⟩

def fiveV : Array Value := #[.int .u32 7, .int .u32 1, .int .u32 300, .int .i64 5]
theorem five_any (w : World) : Calls Try.prog 12 #[] w fun e w' => e = .returned (.agg #[.int .u32 7, .int .u32 1, .int .u32 300, .int .i64 5]) ∧ Below w.heap.size w w' := by
  go_enter Try.func12, Try.ntmps12
  go_wp2
  exact bodyPost_ret (v := .agg fiveV) (results_cell_row rfl _ _ w.heap.size 24 fiveV (0, 0) _ rfl (heap_alloc_new _ _) Try.underlying24 rfl (by kernel_rfl)) rfl ⟨rfl, Ext.alloc (Below.refl _ _) _⟩
theorem five_ok : SupOk 1 300 5 := by decide
theorem seal_take (l : List UInt8) (hl : l.length = 128) (n : Nat) (hn : n ≤ 124) : (sealL l).take n = l.take n := take_ext _ _ _ (sealL_len l) fun i hi => sealL_getD l hl i (by omega)
theorem five_take : (supBlock 7 1 300 5).take 14 = [83, 7, 0, 0, 0, 1, 0, 0, 0, 44, 1, 0, 0, 5] := by
  unfold supBlock
  rw [seal_take _ (pad_len (by decide)) 14 (by decide)]
  decide

set_option maxRecDepth 100000 in
theorem sualive_any (w : World) : Calls Try.prog 9 #[] w fun e w' => e = .returned (.bool true) ∧ Below w.heap.size w w' := by
  have HW := Lib.hid (fun W => pwrite_ok 7 1 300 5 (by decide) (by decide) (by decide) five_ok W)
  go_enter Try.func9, Try.ntmps9
  go_wp2_with fail
  refine (five_any _).mono ?_
  rintro e w1 ⟨rfl, b1⟩
  go_wp2_with fail
  refine (HW.out _).mono ?_
  rintro e w2 ⟨g, rfl, hg, HB, b2⟩
  have t2 := Ext.trans b1 b2
  have q := run_string_bs (P := Try.prog) 128 26 9 5 Try.underlying26 Try.underlying5 Try.underlying9 (HB.bs.first 14 (by decide))
  rw [five_take] at q
  have HG := Lib.hid hg
  clear HB b1 b2 hg
  go_wp2
  go_ret
  exact ⟨rfl, t2⟩

set_option maxRecDepth 100000 in
theorem bounds_ok (id age sq t : Nat) (hi : id < 4294967296) (ha : age < 4294967296) (hs : sq < 4294967296) (h : SupOk age sq t) (w : World) :
    Calls Try.prog 3 #[.agg #[.int .u32 (id : Int), .int .u32 (age : Int), .int .u32 (sq : Int), .int .i64 (t : Int)]] w fun e w' => e = .returned (.bool true) ∧ Below w.heap.size w w' := by
  have HW := Lib.hid (pwrite_ok id age sq t hi ha hs h)
  have HC := Lib.hid (pcheck_ok id age sq t ha hs h)
  obtain ⟨h1, h2, h3, h4⟩ := h
  unfold okN at h1 h2
  simp only [decide_eq_true_eq] at h1 h2
  obtain ⟨h11, h12⟩ := h1
  obtain ⟨h21, h22⟩ := h2
  go_enter Try.func3, Try.ntmps3
  go_wp2_with fail
  have A0 := BoxOf.new w #[.int .u32 (id : Int), .int .u32 (age : Int), .int .u32 (sq : Int), .int .i64 (t : Int)] 24
  have t0 := Ext.alloc (Below.refl w.heap.size w) (.cells #[.int .u32 (id : Int), .int .u32 (age : Int), .int .u32 (sq : Int), .int .i64 (t : Int)] 24)
  refine (sualive_any _).mono ?_
  rintro e w1 ⟨rfl, b1⟩
  have A1 := A0.next b1
  have t1 := Ext.trans t0 b1
  have x1 := A1.cell
  clear A0 t0 b1
  go_wp2_with fail
  refine (HW.out _).mono ?_
  rintro e w2 ⟨g, rfl, hg, HB, b2⟩
  have A2 := A1.next b2
  have t2 := Ext.trans t1 b2
  have x2 := A2.cell
  clear A1 t1 b2 x1 HB hg
  go_wp2_with fail
  refine (HC.out _).mono ?_
  rintro e w3 ⟨rfl, b3⟩
  have t3 := Ext.trans t2 b3
  go_wp2
  go_ret
  exact ⟨rfl, t3⟩

set_option maxRecDepth 100000 in
set_option maxHeartbeats 1000000 in
theorem bounds_bad (id age sq : Nat) (t : Int) (ha : age < 4294967296) (hs : sq < 4294967296) (h : ¬ SupOk age sq t) (w : World) :
    Calls Try.prog 3 #[.agg #[.int .u32 (id : Int), .int .u32 (age : Int), .int .u32 (sq : Int), .int .i64 t]] w fun e w' => e = .returned (.bool true) ∧ Below w.heap.size w w' := by
  have HW := Lib.hid (pwrite_bad id age sq t ha hs h)
  have HC := Lib.hid (pcheck_bad id age sq t ha hs h)
  have hall : (age : Int) ≤ 0 ∨ (0 < (age : Int) ∧ 2147483648 < (age : Int)) ∨ ((0 < (age : Int) ∧ (age : Int) ≤ 2147483648) ∧ (sq : Int) ≤ 0) ∨ ((0 < (age : Int) ∧ (age : Int) ≤ 2147483648) ∧ 0 < (sq : Int) ∧ 2147483648 < (sq : Int)) ∨
      ((0 < (age : Int) ∧ (age : Int) ≤ 2147483648) ∧ (0 < (sq : Int) ∧ (sq : Int) ≤ 2147483648) ∧ t < 0) ∨ ((0 < (age : Int) ∧ (age : Int) ≤ 2147483648) ∧ (0 < (sq : Int) ∧ (sq : Int) ≤ 2147483648) ∧ 0 ≤ t ∧ 254 < t) := by
    unfold SupOk okN at h
    simp only [decide_eq_true_eq] at h
    omega
  clear h ha hs
  rcases hall with h1 | ⟨h1, h2⟩ | ⟨⟨h1, h2⟩, h3⟩ | ⟨⟨h1, h2⟩, h3, h4⟩ | ⟨⟨h1, h2⟩, ⟨h3, h4⟩, h5⟩ | ⟨⟨h1, h2⟩, ⟨h3, h4⟩, h5, h6⟩
  all_goals
    try have d6 : decide (t ≤ 254) = false := decide_eq_false (by omega)
    go_enter Try.func3, Try.ntmps3
    go_wp2_with fail
    have A0 := BoxOf.new w #[.int .u32 (id : Int), .int .u32 (age : Int), .int .u32 (sq : Int), .int .i64 t] 24
    have t0 := Ext.alloc (Below.refl w.heap.size w) (.cells #[.int .u32 (id : Int), .int .u32 (age : Int), .int .u32 (sq : Int), .int .i64 t] 24)
    refine (sualive_any _).mono ?_
    rintro e w1 ⟨rfl, b1⟩
    have A1 := A0.next b1
    have t1 := Ext.trans t0 b1
    have x1 := A1.cell
    clear A0 t0 b1
    go_wp2_with fail
    refine (HW.out _).mono ?_
    rintro e w2 ⟨rfl, b2⟩
    have A2 := A1.next b2
    have t2 := Ext.trans t1 b2
    have x2 := A2.cell
    clear A1 t1 b2 x1
    go_wp2_with fail
    refine (HC.out _).mono ?_
    rintro e w3 ⟨rfl, b3⟩
    have t3 := Ext.trans t2 b3
    go_wp2
    go_ret
    exact ⟨rfl, t3⟩

theorem superBounds_walk (w : World) (cs : List Value) (y : (Ty.st (.prod .u32 (.prod .u32 (.prod .u32 (.prod .int .unit))))).T) (h0 : Reads w (Ty.st (.prod .u32 (.prod .u32 (.prod .u32 (.prod .int .unit))))) y cs) :
    Calls Try.prog 3 #[.agg cs.toArray] w fun e w' => e = .returned (.bool true) ∧ Below w.heap.size w w' := by
  obtain ⟨id, age, sq, t, hx, h1, h2, h3, _⟩ := sup_open h0
  rw [hx]
  by_cases h : SupOk age sq t
  · obtain ⟨n, rfl⟩ : ∃ n : Nat, t = (n : Int) := ⟨t.toNat, by have := h.2.2.1; omega⟩
    exact bounds_ok id age sq n h1 h2 h3 h w
  · exact bounds_bad id age sq t h2 h3 h w
end Go.Proofs.Ytgmlhfencidahaa
