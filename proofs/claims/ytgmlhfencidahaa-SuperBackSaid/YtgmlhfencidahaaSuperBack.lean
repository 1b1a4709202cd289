/- Layer 10 (super): what is written is read, what is read is written. -/
import Derived.Test.YtgmlhfencidahaaSuperPlain
import Derived.Test.YtgmlhfencidahaaSuperLaws
import Derived.Deep.DeepCutAuto
namespace Go.Proofs.Ytgmlhfencidahaa
open Go Go.RowKit
set_option linter.unusedSimpArgs false
set_option linter.unusedVariables false

set_option maxRecDepth 100000 in
theorem back_long (id age sq : Nat) (t : Int) (A : Option Addr) (n q : Nat) (hn : 1000 < n) (w : World) :
    Calls Try.prog 6 #[.agg #[.int .u32 (id : Int), .int .u32 (age : Int), .int .u32 (sq : Int), .int .i64 t], .slice A n q] w fun e w' => e = .returned (.bool true) ∧ Below w.heap.size w w' := by
  have hi1 : decide (1000 < (n : Int)) = true := decide_eq_true (by omega)
  go_enter Try.func6, Try.ntmps6
  go_wp2_with fail
  have t0 := Ext.alloc (Below.refl w.heap.size w) (.cells #[.int .u32 (id : Int), .int .u32 (age : Int), .int .u32 (sq : Int), .int .i64 t] 24)
  refine (sualive_any _).mono ?_
  rintro e w1 ⟨rfl, b1⟩
  have t1 := Ext.trans t0 b1
  clear t0 b1
  go_wp2
  go_ret
  exact ⟨rfl, t1⟩

set_option maxRecDepth 100000 in
set_option maxHeartbeats 1000000 in
theorem back_text1 (id age sq : Nat) (t : Int) (ha : age < 4294967296) (hs : sq < 4294967296) (hok : ¬ SupOk age sq t) (A : Option Addr) (n q : Nat) (hn : n ≤ 1000) (h0 : n ≠ 0) (h1 : n ≠ 128) (w : World) : Calls Try.prog 6 #[.agg #[.int .u32 (id : Int), .int .u32 (age : Int), .int .u32 (sq : Int), .int .i64 t], .slice A n q] w fun e w' => e = .returned (.bool true) ∧ Below w.heap.size w w' := by
  have HW := Lib.hid (pwrite_bad id age sq t ha hs hok)
  have HR := Lib.hid (read_text A n q h0 h1)
  clear hok ha hs
  have hi1 : decide (1000 < (n : Int)) = false := decide_eq_false (by omega)
  have hi2 : decide (1000 < n) = false := decide_eq_false (by omega)
  go_enter Try.func6, Try.ntmps6
  go_wp2_with fail
  have A0 := BoxOf.new w #[.int .u32 (id : Int), .int .u32 (age : Int), .int .u32 (sq : Int), .int .i64 t] 24
  have t0 := Ext.alloc (Below.refl w.heap.size w) (.cells #[.int .u32 (id : Int), .int .u32 (age : Int), .int .u32 (sq : Int), .int .i64 t] 24)
  refine (sualive_any _).mono ?_
  rintro e w1 ⟨rfl, b1⟩
  have A1 := A0.next b1
  have t1 := Ext.trans t0 b1
  have x1 := A1.cell
  clear A0 t0 b1
  go_wp2_with fail
  refine (HW.out _).mono ?_
  rintro e w2 ⟨rfl, b2⟩
  have t4 := Ext.trans t1 b2
  clear A1 t1 x1 b2
  go_wp2_with fail
  generalize w2 = w4 at *
  have e1 : ((n : Int) != 0) = true := by rw [bne_iff_ne]; omega
  have e2 : ((n : Int) != 128) = true := by rw [bne_iff_ne]; omega
  have e3 : (n != 0) = true := by rw [bne_iff_ne]; omega
  have e4 : (n != 128) = true := by rw [bne_iff_ne]; omega
  refine (HR.out _).mono ?_
  rintro e w5 ⟨rfl, b5⟩
  have t5 := Ext.alloc (Ext.trans t4 b5) (.cells #[.int .u32 0, .int .u32 0, .int .u32 0, .int .i64 0] 24)
  clear t4 b5
  go_wp2
  go_ret
  exact ⟨rfl, t5⟩

set_option maxRecDepth 100000 in
set_option maxHeartbeats 1000000 in
theorem back_text2 (id age sq : Nat) (t : Nat) (hi : id < 4294967296) (ha : age < 4294967296) (hs : sq < 4294967296) (hok : SupOk age sq (t : Int)) (A : Option Addr) (n q : Nat) (hn : n ≤ 1000) (h0 : n ≠ 0) (h1 : n ≠ 128) (w : World) : Calls Try.prog 6 #[.agg #[.int .u32 (id : Int), .int .u32 (age : Int), .int .u32 (sq : Int), .int .i64 (t : Int)], .slice A n q] w fun e w' => e = .returned (.bool true) ∧ Below w.heap.size w w' := by
  have HW := Lib.hid (pwrite_ok id age sq t hi ha hs hok)
  have ho := fun A n q w hb => sup_read_own A n q id age sq t hi ha hs hok w hb
  unfold supV at ho
  have HO := Lib.hid ho
  clear ho
  have HR := Lib.hid (read_text A n q h0 h1)
  clear hok ha hs hi
  have hi1 : decide (1000 < (n : Int)) = false := decide_eq_false (by omega)
  have hi2 : decide (1000 < n) = false := decide_eq_false (by omega)
  go_enter Try.func6, Try.ntmps6
  go_wp2_with fail
  have A0 := BoxOf.new w #[.int .u32 (id : Int), .int .u32 (age : Int), .int .u32 (sq : Int), .int .i64 (t : Int)] 24
  have t0 := Ext.alloc (Below.refl w.heap.size w) (.cells #[.int .u32 (id : Int), .int .u32 (age : Int), .int .u32 (sq : Int), .int .i64 (t : Int)] 24)
  refine (sualive_any _).mono ?_
  rintro e w1 ⟨rfl, b1⟩
  have A1 := A0.next b1
  have t1 := Ext.trans t0 b1
  have x1 := A1.cell
  clear A0 t0 b1
  go_wp2_with fail
  refine (HW.out _).mono ?_
  rintro e w2 ⟨g, rfl, _, hB, b2⟩
  have A2 := A1.next b2
  have t2 := Ext.trans t1 b2
  have hbs := hB.bs
  clear A1 t1 x1 b2 hB
  go_wp2_with fail
  refine (HO.out _ _ _ _ hbs).mono ?_
  rintro e w3 ⟨rfl, b3⟩
  have A3 := (A2.next b3).alloc (.cells #[.int .u32 (id : Int), .int .u32 (age : Int), .int .u32 (sq : Int), .int .i64 (t : Int)] 24)
  have D3 := BoxOf.new w3 #[.int .u32 (id : Int), .int .u32 (age : Int), .int .u32 (sq : Int), .int .i64 (t : Int)] 24
  have t4 := Ext.alloc (Ext.trans t2 b3) (.cells #[.int .u32 (id : Int), .int .u32 (age : Int), .int .u32 (sq : Int), .int .i64 (t : Int)] 24)
  have y3 := A3.cell
  have z3 := D3.cell
  clear A2 t2 b3 hbs
  go_wp2_with fail
  clear A3 D3 y3 z3
  generalize w3.alloc (.cells #[.int .u32 (id : Int), .int .u32 (age : Int), .int .u32 (sq : Int), .int .i64 (t : Int)] 24) = w4 at t4 ⊢
  have e1 : ((n : Int) != 0) = true := by rw [bne_iff_ne]; omega
  have e2 : ((n : Int) != 128) = true := by rw [bne_iff_ne]; omega
  have e3 : (n != 0) = true := by rw [bne_iff_ne]; omega
  have e4 : (n != 128) = true := by rw [bne_iff_ne]; omega
  refine (HR.out _).mono ?_
  rintro e w5 ⟨rfl, b5⟩
  have t5 := Ext.alloc (Ext.trans t4 b5) (.cells #[.int .u32 0, .int .u32 0, .int .u32 0, .int .i64 0] 24)
  clear t4 b5
  go_wp2
  go_ret
  exact ⟨rfl, t5⟩

theorem read_again {bs : List UInt8} {id age sq t : Nat} (h : ReadIs bs id age sq t) (w : World) : Calls Try.prog 10 #[.agg #[.int .u32 (id : Int), .int .u32 (age : Int), .int .u32 (sq : Int), .int .i64 (t : Int)]] w fun e w' => ∃ P k c, e = .returned (.tuple #[.slice P k c, .int .i64 0]) ∧ Bs w' P k bs ∧ Below w.heap.size w w' := by
  obtain ⟨⟨h1, h2, h3, h4⟩, hok, h5⟩ := h
  have b1 : id < 4294967296 := by rw [h1]; exact takeN_lt _ 1 4
  have b2 : age < 4294967296 := by rw [h2]; exact takeN_lt _ 5 4
  have b3 : sq < 4294967296 := by rw [h3]; exact takeN_lt _ 9 4
  clear h1 h2 h3 h4
  refine (pwrite_ok id age sq t b1 b2 b3 hok w).mono ?_
  rintro e w' ⟨g, rfl, _, hB, hbl⟩
  rw [h5] at hB
  exact ⟨_, _, _, rfl, hB.bs, hbl⟩

set_option maxRecDepth 100000 in
set_option maxHeartbeats 1000000 in
theorem back_block1 (id age sq : Nat) (t : Int) (ha : age < 4294967296) (hs : sq < 4294967296) (hok : ¬ SupOk age sq t) (A : Option Addr) (n q : Nat) (bs : List UInt8) (hle : n ≤ 1000) (hn : n = 0 ∨ n = 128) (w : World) (hb : Bs w A n bs) : Calls Try.prog 6 #[.agg #[.int .u32 (id : Int), .int .u32 (age : Int), .int .u32 (sq : Int), .int .i64 t], .slice A n q] w fun e w' => e = .returned (.bool true) ∧ Below w.heap.size w w' := by
  have HW := Lib.hid (pwrite_bad id age sq t ha hs hok)
  clear hok ha hs
  have hi1 : decide (1000 < (n : Int)) = false := decide_eq_false (by omega)
  have hi2 : decide (1000 < n) = false := decide_eq_false (by omega)
  go_enter Try.func6, Try.ntmps6
  go_wp2_with fail
  have A0 := BoxOf.new w #[.int .u32 (id : Int), .int .u32 (age : Int), .int .u32 (sq : Int), .int .i64 t] 24
  have t0 := Ext.alloc (Below.refl w.heap.size w) (.cells #[.int .u32 (id : Int), .int .u32 (age : Int), .int .u32 (sq : Int), .int .i64 t] 24)
  refine (sualive_any _).mono ?_
  rintro e w1 ⟨rfl, b1⟩
  have A1 := A0.next b1
  have t1 := Ext.trans t0 b1
  have x1 := A1.cell
  clear A0 t0 b1
  go_wp2_with fail
  refine (HW.out _).mono ?_
  rintro e w2 ⟨rfl, b2⟩
  have t4 := Ext.trans t1 b2
  clear A1 t1 x1 b2
  go_wp2_with fail
  generalize w2 = w4 at *
  rcases read_block A n q bs hn w4 (hb.below t4) with ⟨i1, i2, i3, i4, hr, hc⟩ | ⟨hno, hc⟩
  · unfold supV at hc
    have HZ := Lib.hid (read_again hr)
    refine hc.mono ?_
    rintro e w5 ⟨rfl, b5⟩
    have t5 := Ext.alloc (Ext.trans t4 b5) (.cells #[.int .u32 (i1 : Int), .int .u32 (i2 : Int), .int .u32 (i3 : Int), .int .i64 (i4 : Int)] 24)
    have D5 := BoxOf.new w5 #[.int .u32 (i1 : Int), .int .u32 (i2 : Int), .int .u32 (i3 : Int), .int .i64 (i4 : Int)] 24
    have z5 := D5.cell
    have hb5 := hb.below t5
    clear t4 b5 hr hn hb hc
    go_wp2_with fail
    refine (HZ.out _).mono ?_
    rintro e w6 ⟨P, k, c, rfl, hp, b6⟩
    have t6 := Ext.trans t5 b6
    have s1 := run_string_bs (P := Try.prog) c 26 9 5 Try.underlying26 Try.underlying5 Try.underlying9 hp
    have s2 := run_string_bs (P := Try.prog) q 26 9 5 Try.underlying26 Try.underlying5 Try.underlying9 (hb5.below b6)
    clear hp hb5 D5 z5 t5 b6
    go_wp2
    go_ret
    exact ⟨rfl, t6⟩
  · refine hc.mono ?_
    rintro e w5 ⟨rfl, b5⟩
    have t5 := Ext.alloc (Ext.trans t4 b5) (.cells #[.int .u32 0, .int .u32 0, .int .u32 0, .int .i64 0] 24)
    clear t4 b5 hno hb
    rcases hn with hn | hn
    · have e1 : ((n : Int) != 0) = false := by rw [bne_eq_false_iff_eq]; omega
      have e3 : (n != 0) = false := by rw [bne_eq_false_iff_eq]; omega
      clear hn
      go_wp2
      go_ret
      exact ⟨rfl, t5⟩
    · have e1 : ((n : Int) != 0) = true := by rw [bne_iff_ne]; omega
      have e3 : (n != 0) = true := by rw [bne_iff_ne]; omega
      have e2 : ((n : Int) != 128) = false := by rw [bne_eq_false_iff_eq]; omega
      have e4 : (n != 128) = false := by rw [bne_eq_false_iff_eq]; omega
      clear hn
      go_wp2
      go_ret
      exact ⟨rfl, t5⟩

set_option maxRecDepth 100000 in
set_option maxHeartbeats 1000000 in
theorem back_block2 (id age sq : Nat) (t : Nat) (hi : id < 4294967296) (ha : age < 4294967296) (hs : sq < 4294967296) (hok : SupOk age sq (t : Int)) (A : Option Addr) (n q : Nat) (bs : List UInt8) (hle : n ≤ 1000) (hn : n = 0 ∨ n = 128) (w : World) (hb : Bs w A n bs) : Calls Try.prog 6 #[.agg #[.int .u32 (id : Int), .int .u32 (age : Int), .int .u32 (sq : Int), .int .i64 (t : Int)], .slice A n q] w fun e w' => e = .returned (.bool true) ∧ Below w.heap.size w w' := by
  have HW := Lib.hid (pwrite_ok id age sq t hi ha hs hok)
  have ho := fun A n q w hb => sup_read_own A n q id age sq t hi ha hs hok w hb
  unfold supV at ho
  have HO := Lib.hid ho
  clear ho
  clear hok ha hs hi
  have hi1 : decide (1000 < (n : Int)) = false := decide_eq_false (by omega)
  have hi2 : decide (1000 < n) = false := decide_eq_false (by omega)
  go_enter Try.func6, Try.ntmps6
  go_wp2_with fail
  have A0 := BoxOf.new w #[.int .u32 (id : Int), .int .u32 (age : Int), .int .u32 (sq : Int), .int .i64 (t : Int)] 24
  have t0 := Ext.alloc (Below.refl w.heap.size w) (.cells #[.int .u32 (id : Int), .int .u32 (age : Int), .int .u32 (sq : Int), .int .i64 (t : Int)] 24)
  refine (sualive_any _).mono ?_
  rintro e w1 ⟨rfl, b1⟩
  have A1 := A0.next b1
  have t1 := Ext.trans t0 b1
  have x1 := A1.cell
  clear A0 t0 b1
  go_wp2_with fail
  refine (HW.out _).mono ?_
  rintro e w2 ⟨g, rfl, _, hB, b2⟩
  have A2 := A1.next b2
  have t2 := Ext.trans t1 b2
  have hbs := hB.bs
  clear A1 t1 x1 b2 hB
  go_wp2_with fail
  refine (HO.out _ _ _ _ hbs).mono ?_
  rintro e w3 ⟨rfl, b3⟩
  have A3 := (A2.next b3).alloc (.cells #[.int .u32 (id : Int), .int .u32 (age : Int), .int .u32 (sq : Int), .int .i64 (t : Int)] 24)
  have D3 := BoxOf.new w3 #[.int .u32 (id : Int), .int .u32 (age : Int), .int .u32 (sq : Int), .int .i64 (t : Int)] 24
  have t4 := Ext.alloc (Ext.trans t2 b3) (.cells #[.int .u32 (id : Int), .int .u32 (age : Int), .int .u32 (sq : Int), .int .i64 (t : Int)] 24)
  have y3 := A3.cell
  have z3 := D3.cell
  clear A2 t2 b3 hbs
  go_wp2_with fail
  clear A3 D3 y3 z3
  generalize w3.alloc (.cells #[.int .u32 (id : Int), .int .u32 (age : Int), .int .u32 (sq : Int), .int .i64 (t : Int)] 24) = w4 at t4 ⊢
  rcases read_block A n q bs hn w4 (hb.below t4) with ⟨i1, i2, i3, i4, hr, hc⟩ | ⟨hno, hc⟩
  · unfold supV at hc
    have HZ := Lib.hid (read_again hr)
    refine hc.mono ?_
    rintro e w5 ⟨rfl, b5⟩
    have t5 := Ext.alloc (Ext.trans t4 b5) (.cells #[.int .u32 (i1 : Int), .int .u32 (i2 : Int), .int .u32 (i3 : Int), .int .i64 (i4 : Int)] 24)
    have D5 := BoxOf.new w5 #[.int .u32 (i1 : Int), .int .u32 (i2 : Int), .int .u32 (i3 : Int), .int .i64 (i4 : Int)] 24
    have z5 := D5.cell
    have hb5 := hb.below t5
    clear t4 b5 hr hn hb hc
    go_wp2_with fail
    refine (HZ.out _).mono ?_
    rintro e w6 ⟨P, k, c, rfl, hp, b6⟩
    have t6 := Ext.trans t5 b6
    have s1 := run_string_bs (P := Try.prog) c 26 9 5 Try.underlying26 Try.underlying5 Try.underlying9 hp
    have s2 := run_string_bs (P := Try.prog) q 26 9 5 Try.underlying26 Try.underlying5 Try.underlying9 (hb5.below b6)
    clear hp hb5 D5 z5 t5 b6
    go_wp2
    go_ret
    exact ⟨rfl, t6⟩
  · refine hc.mono ?_
    rintro e w5 ⟨rfl, b5⟩
    have t5 := Ext.alloc (Ext.trans t4 b5) (.cells #[.int .u32 0, .int .u32 0, .int .u32 0, .int .i64 0] 24)
    clear t4 b5 hno hb
    rcases hn with hn | hn
    · have e1 : ((n : Int) != 0) = false := by rw [bne_eq_false_iff_eq]; omega
      have e3 : (n != 0) = false := by rw [bne_eq_false_iff_eq]; omega
      clear hn
      go_wp2
      go_ret
      exact ⟨rfl, t5⟩
    · have e1 : ((n : Int) != 0) = true := by rw [bne_iff_ne]; omega
      have e3 : (n != 0) = true := by rw [bne_iff_ne]; omega
      have e2 : ((n : Int) != 128) = false := by rw [bne_eq_false_iff_eq]; omega
      have e4 : (n != 128) = false := by rw [bne_eq_false_iff_eq]; omega
      clear hn
      go_wp2
      go_ret
      exact ⟨rfl, t5⟩

theorem back_all (id age sq : Nat) (t : Int) (hi : id < 4294967296) (ha : age < 4294967296) (hs : sq < 4294967296) (A : Option Addr) (n q : Nat) (bs : List UInt8) (w : World) (hb : Bs w A n bs) : Calls Try.prog 6 #[.agg #[.int .u32 (id : Int), .int .u32 (age : Int), .int .u32 (sq : Int), .int .i64 t], .slice A n q] w fun e w' => e = .returned (.bool true) ∧ Below w.heap.size w w' := by
  by_cases hl : n ≤ 1000
  · by_cases hok : SupOk age sq t
    · obtain ⟨t, rfl⟩ : ∃ n : Nat, t = (n : Int) := ⟨t.toNat, by have := hok.2.2.1; omega⟩
      by_cases h3 : n = 0 ∨ n = 128
      · exact back_block2 id age sq t hi ha hs hok A n q bs hl h3 w hb
      · exact back_text2 id age sq t hi ha hs hok A n q hl (by omega) (by omega) w
    · by_cases h3 : n = 0 ∨ n = 128
      · exact back_block1 id age sq t ha hs hok A n q bs hl h3 w hb
      · exact back_text1 id age sq t ha hs hok A n q hl (by omega) (by omega) w
  · exact back_long id age sq t A n q (by omega) w

theorem superBack_walk (w : World) (cs : List Value) (y : (Ty.st (.prod .u32 (.prod .u32 (.prod .u32 (.prod .int .unit))))).T) (h0 : Reads w (Ty.st (.prod .u32 (.prod .u32 (.prod .u32 (.prod .int .unit))))) y cs) (v1 : Value) (bs : (Ty.sl .byte).T) (h1 : Reads w (.sl .byte) bs [v1]) :
    Calls Try.prog 6 #[.agg cs.toArray, v1] w fun e w' => e = .returned (.bool true) ∧ Below w.heap.size w w' := by
  obtain ⟨id, age, sq, t, hv, hi, ha, hs, _⟩ := sup_open h0
  obtain ⟨A, q, rfl, _, _, hb⟩ := one_bytes h1
  rw [hv]
  exact back_all id age sq t hi ha hs A _ q bs w hb
end Go.Proofs.Ytgmlhfencidahaa
