/- Layer 11 (note): a block with bytes turned is none: the statement. -/
import Derived.Test.YtggdfecgkhnkkaaNoteUnlike
import Derived.Test.YtggdfecgkhnkkaaNoteAt
import Derived.Test.YtggdfecgkhnkkaaPackRef
namespace Go.Proofs.Ytggdfecgkhnkkaa
open Go Go.RowKit
set_option linter.unusedSimpArgs false
set_option linter.unusedVariables false

def tdown (bs ys : List UInt8) (p : Nat) : Nat → List UInt8
  | 0 => bs
  | j + 1 => (tdown bs ys p j).set (p + (3 - j)) ((tdown bs ys p j).getD (p + (3 - j)) 0 ^^^ ys.getD (3 - j) 0)
theorem tdown_succ (bs ys : List UInt8) (p j : Nat) : tdown bs ys p (j + 1) = (tdown bs ys p j).set (p + (3 - j)) ((tdown bs ys p j).getD (p + (3 - j)) 0 ^^^ ys.getD (3 - j) 0) := rfl
theorem tdown_length (bs ys : List UInt8) (p j : Nat) : (tdown bs ys p j).length = bs.length := by
  induction j with
  | zero => rfl
  | succ j ih => rw [tdown_succ, List.length_set, ih]
theorem tdown_getD (bs ys : List UInt8) (p i : Nat) (hp : p + 4 ≤ bs.length) : ∀ j, j ≤ 4 → (tdown bs ys p j).getD i 0 = if p + 4 ≤ i + j ∧ i < p + 4 then bs.getD i 0 ^^^ ys.getD (i - p) 0 else bs.getD i 0 := by
  intro j
  induction j with
  | zero => intro _; rw [if_neg (by omega)]; rfl
  | succ j ih =>
    intro hj
    rw [tdown_succ, set_getD _ _ _ _ (by rw [tdown_length]; omega), ih (by omega)]
    by_cases h : i = p + (3 - j)
    · rw [if_pos h, if_pos (by omega), ← h, ih (by omega), if_neg (by omega), show 3 - j = i - p by omega]
    · rw [if_neg h]
      by_cases h2 : p + 4 ≤ i + j ∧ i < p + 4
      · rw [if_pos h2, if_pos (by omega)]
      · rw [if_neg h2, if_neg (by omega)]
theorem tdown_four (bs ys : List UInt8) (p : Nat) (hp : p + 4 ≤ bs.length) : tdown bs ys p 4 = turned bs ys p 4 := by
  refine ext_getD _ _ (by rw [tdown_length, turned_length]) fun i => ?_
  rw [tdown_getD _ _ _ _ hp 4 (by omega), turned_getD _ _ _ _ _ hp]
  by_cases h : p ≤ i ∧ i < p + 4
  · rw [if_pos h, if_pos (by omega)]
  · rw [if_neg h, if_neg (by omega)]

set_option maxRecDepth 100000 in
theorem neq_nought4 (y0 y1 y2 y3 : UInt8) (w : World) : (Op.equalIn 10000 36 (.agg #[.int .u8 y0.toNat, .int .u8 y1.toNat, .int .u8 y2.toNat, .int .u8 y3.toNat]) (.agg #[.int .u8 0, .int .u8 0, .int .u8 0, .int .u8 0])).run Try.prog w =
    .ok (decide (y0 = 0 ∧ y1 = 0 ∧ y2 = 0 ∧ y3 = 0)) w := by
  obtain ⟨i0, hi, _, hz1, _⟩ := info_b
  have h := run_eq_arr4 w 9998 36 5 i0 .u8 (y0.toNat : Int) y1.toNat y2.toNat y3.toNat 0 0 0 0 Try.underlying36 Try.underlying5 hi hz1
  simp only [Nat.reduceAdd] at h
  rw [h]
  congr 1
  have e : ∀ y : UInt8, ((y.toNat : Int) == 0) = decide (y = 0) := by
    intro y
    rw [Bool.eq_iff_iff]
    simp only [beq_iff_eq, decide_eq_true_eq]
    rw [← UInt8.toNat_inj]
    simp
  simp only [e, Bool.decide_and]

theorem narr4_open {w : World} {cs : List Value} {xs : List UInt8} (h : Reads w (.arr 4 .byte) xs cs) : ∃ y0 y1 y2 y3 : UInt8, xs = [y0, y1, y2, y3] ∧ cs.toArray = #[.int .u8 y0.toNat, .int .u8 y1.toNat, .int .u8 y2.toNat, .int .u8 y3.toNat] := by
  obtain ⟨hl, hc, hr⟩ := reads_arr.1 h
  match xs, hl with
  | [y0, y1, y2, y3], _ =>
    match cs, hc with
    | [c0, c1, c2, c3], _ =>
      have h0 : _ = [byteV y0] := reads_byte.1 (hr 0 (show 0 < 4 by decide))
      have h1 : _ = [byteV y1] := reads_byte.1 (hr 1 (show 1 < 4 by decide))
      have h2 : _ = [byteV y2] := reads_byte.1 (hr 2 (show 2 < 4 by decide))
      have h3 : _ = [byteV y3] := reads_byte.1 (hr 3 (show 3 < 4 by decide))
      simp [Ty.size, byteV] at h0 h1 h2 h3
      refine ⟨y0, y1, y2, y3, rfl, ?_⟩
      rw [h0, h1, h2, h3]

set_option maxRecDepth 100000 in
theorem nturns_long (id age sq : Nat) (st : Int) (B : Option Addr) (m k : Nat) (a : Int) (y0 y1 y2' y3 : UInt8) (hm : 1000 < m) (w : World) : Calls Try.prog 5 #[.agg #[.int .u32 (id : Int), .int .u32 (age : Int), .int .u32 (sq : Int), .int .i64 st, .slice B m k], .int .i64 a, .agg #[.int .u8 (y0.toNat : Int), .int .u8 (y1.toNat : Int), .int .u8 (y2'.toNat : Int), .int .u8 (y3.toNat : Int)]] w fun e w' => e = .returned (.bool true) ∧ Below w.heap.size w w' := by
  go_enter Try.func5, Try.ntmps5
  go_wp2_with fail
  have A0 := BoxOf.alloc (BoxOf.new w #[.int .u32 (id : Int), .int .u32 (age : Int), .int .u32 (sq : Int), .int .i64 st, .slice B m k] 25) (.cells #[.int .u8 (y0.toNat : Int), .int .u8 (y1.toNat : Int), .int .u8 (y2'.toNat : Int), .int .u8 (y3.toNat : Int)] 36)
  have D0 := BoxOf.new' (w.alloc (.cells #[.int .u32 (id : Int), .int .u32 (age : Int), .int .u32 (sq : Int), .int .i64 st, .slice B m k] 25)) (w.heap.size + 1) #[.int .u8 (y0.toNat : Int), .int .u8 (y1.toNat : Int), .int .u8 (y2'.toNat : Int), .int .u8 (y3.toNat : Int)] 36 (by simp)
  have t0 := Ext.alloc (Ext.alloc (Below.refl w.heap.size w) (.cells #[.int .u32 (id : Int), .int .u32 (age : Int), .int .u32 (sq : Int), .int .i64 st, .slice B m k] 25)) (.cells #[.int .u8 (y0.toNat : Int), .int .u8 (y1.toNat : Int), .int .u8 (y2'.toNat : Int), .int .u8 (y3.toNat : Int)] 36)
  refine (nalive_any _).mono ?_
  rintro e w1 ⟨rfl, b1⟩
  have A1 := A0.next b1
  have D1 := D0.next b1
  have t1 := Ext.trans t0 b1
  have x1 := A1.cell
  clear A0 D0 t0 b1
  have d1 : decide ((1000 : Int) < (m : Int)) = true := decide_eq_true (by omega)
  have d2 : (1000 : Int) < (m : Int) := by omega
  go_wp2
  go_ret
  exact ⟨rfl, t1⟩

def Where (a : Int) : Prop := (decide (0 ≤ a) = false ∧ (a != 124) = true ∧ (a < 0 ∨ 120 < a)) ∨ (decide (0 ≤ a) = true ∧ decide (a ≤ 120) = false ∧ (a != 124) = true) ∨ (decide (0 ≤ a) = true ∧ decide (a ≤ 120) = false ∧ (a != 124) = false) ∨ (decide (0 ≤ a) = true ∧ decide (a ≤ 120) = true)
theorem where_any (a : Int) : (decide (0 ≤ a) = false ∧ (a != 124) = true) ∨ (decide (0 ≤ a) = true ∧ decide (a ≤ 120) = false ∧ (a != 124) = true) ∨ (decide (0 ≤ a) = true ∧ decide (a ≤ 120) = false ∧ (a != 124) = false) ∨ (decide (0 ≤ a) = true ∧ decide (a ≤ 120) = true) := by
  simp only [decide_eq_false_iff_not, decide_eq_true_eq, bne_iff_ne, bne_eq_false_iff_eq]
  omega

set_option maxRecDepth 100000 in
theorem nturns_bad (id age sq : Nat) (st : Int) (B : Option Addr) (m k : Nat) (rs : List NRec) (a : Int) (y0 y1 y2' y3 : UInt8) (hm : m ≤ 1000)
    (h1 : ∀ W, Rs W B m rs → Calls Try.prog 11 #[.agg #[.int .u32 (id : Int), .int .u32 (age : Int), .int .u32 (sq : Int), .int .i64 st, .slice B m k]] W fun e w' => e = .returned (.tuple #[.slice none 0 0, .int .i64 8]) ∧ Below W.heap.size W w') (w : World) (hR : Rs w B m rs) : Calls Try.prog 5 #[.agg #[.int .u32 (id : Int), .int .u32 (age : Int), .int .u32 (sq : Int), .int .i64 st, .slice B m k], .int .i64 a, .agg #[.int .u8 (y0.toNat : Int), .int .u8 (y1.toNat : Int), .int .u8 (y2'.toNat : Int), .int .u8 (y3.toNat : Int)]] w fun e w' => e = .returned (.bool true) ∧ Below w.heap.size w w' := by
  have HW := Lib.hid h1
  have HP := Lib.hid (where_any a)
  clear h1
  go_enter Try.func5, Try.ntmps5
  go_wp2_with fail
  have A0 := BoxOf.alloc (BoxOf.new w #[.int .u32 (id : Int), .int .u32 (age : Int), .int .u32 (sq : Int), .int .i64 st, .slice B m k] 25) (.cells #[.int .u8 (y0.toNat : Int), .int .u8 (y1.toNat : Int), .int .u8 (y2'.toNat : Int), .int .u8 (y3.toNat : Int)] 36)
  have D0 := BoxOf.new' (w.alloc (.cells #[.int .u32 (id : Int), .int .u32 (age : Int), .int .u32 (sq : Int), .int .i64 st, .slice B m k] 25)) (w.heap.size + 1) #[.int .u8 (y0.toNat : Int), .int .u8 (y1.toNat : Int), .int .u8 (y2'.toNat : Int), .int .u8 (y3.toNat : Int)] 36 (by simp)
  have t0 := Ext.alloc (Ext.alloc (Below.refl w.heap.size w) (.cells #[.int .u32 (id : Int), .int .u32 (age : Int), .int .u32 (sq : Int), .int .i64 st, .slice B m k] 25)) (.cells #[.int .u8 (y0.toNat : Int), .int .u8 (y1.toNat : Int), .int .u8 (y2'.toNat : Int), .int .u8 (y3.toNat : Int)] 36)
  refine (nalive_any _).mono ?_
  rintro e w1 ⟨rfl, b1⟩
  have A1 := A0.next b1
  have D1 := D0.next b1
  have t1 := Ext.trans t0 b1
  have x1 := A1.cell
  clear A0 D0 t0 b1
  have d1 : decide ((1000 : Int) < (m : Int)) = false := decide_eq_false (by omega)
  have d2 : ¬ (1000 : Int) < (m : Int) := by omega
  go_wp2_with fail
  clear d1 d2
  refine (HW.out _ (hR.below t1)).mono ?_
  rintro e w2 ⟨rfl, b2⟩
  have t2 := Ext.trans t1 b2
  clear A1 D1 t1 x1 b2
  rcases HP.out with ⟨q1, q2⟩ | ⟨q1, q2, q3⟩ | ⟨q1, q2, q3⟩ | ⟨q1, q2⟩
  all_goals
    clear HP
    go_wp2
    go_ret
    exact ⟨rfl, t2⟩

set_option maxRecDepth 100000 in
set_option maxHeartbeats 1000000 in
theorem nturns_none (id age sq : Nat) (st : Int) (B : Option Addr) (m k : Nat) (rs : List NRec) (a : Int) (y0 y1 y2' y3 : UInt8) (hm : m ≤ 1000) (ws : List UInt8)
    (h1 : ∀ W, Rs W B m rs → Calls Try.prog 11 #[.agg #[.int .u32 (id : Int), .int .u32 (age : Int), .int .u32 (sq : Int), .int .i64 st, .slice B m k]] W fun e w' => ∃ g, e = .returned (.tuple #[.slice (some ⟨g, 0, none⟩) 128 128, .int .i64 0]) ∧ Box w' g ws ∧ Below W.heap.size W w')
    (hb : (y0 = 0 ∧ y1 = 0 ∧ y2' = 0 ∧ y3 = 0) ∨ a < 0 ∨ (120 < a ∧ a ≠ 124)) (w : World) (hR : Rs w B m rs) : Calls Try.prog 5 #[.agg #[.int .u32 (id : Int), .int .u32 (age : Int), .int .u32 (sq : Int), .int .i64 st, .slice B m k], .int .i64 a, .agg #[.int .u8 (y0.toNat : Int), .int .u8 (y1.toNat : Int), .int .u8 (y2'.toNat : Int), .int .u8 (y3.toNat : Int)]] w fun e w' => e = .returned (.bool true) ∧ Below w.heap.size w w' := by
  have HW := Lib.hid h1
  have HP := Lib.hid (where_any a)
  have HB := Lib.hid hb
  clear h1 hb
  go_enter Try.func5, Try.ntmps5
  go_wp2_with fail
  have A0 := BoxOf.alloc (BoxOf.new w #[.int .u32 (id : Int), .int .u32 (age : Int), .int .u32 (sq : Int), .int .i64 st, .slice B m k] 25) (.cells #[.int .u8 (y0.toNat : Int), .int .u8 (y1.toNat : Int), .int .u8 (y2'.toNat : Int), .int .u8 (y3.toNat : Int)] 36)
  have D0 := BoxOf.new' (w.alloc (.cells #[.int .u32 (id : Int), .int .u32 (age : Int), .int .u32 (sq : Int), .int .i64 st, .slice B m k] 25)) (w.heap.size + 1) #[.int .u8 (y0.toNat : Int), .int .u8 (y1.toNat : Int), .int .u8 (y2'.toNat : Int), .int .u8 (y3.toNat : Int)] 36 (by simp)
  have t0 := Ext.alloc (Ext.alloc (Below.refl w.heap.size w) (.cells #[.int .u32 (id : Int), .int .u32 (age : Int), .int .u32 (sq : Int), .int .i64 st, .slice B m k] 25)) (.cells #[.int .u8 (y0.toNat : Int), .int .u8 (y1.toNat : Int), .int .u8 (y2'.toNat : Int), .int .u8 (y3.toNat : Int)] 36)
  refine (nalive_any _).mono ?_
  rintro e w1 ⟨rfl, b1⟩
  have A1 := A0.next b1
  have D1 := D0.next b1
  have t1 := Ext.trans t0 b1
  have x1 := A1.cell
  clear A0 D0 t0 b1
  have d1 : decide ((1000 : Int) < (m : Int)) = false := decide_eq_false (by omega)
  have d2 : ¬ (1000 : Int) < (m : Int) := by omega
  go_wp2_with fail
  clear d1 d2
  refine (HW.out _ (hR.below t1)).mono ?_
  rintro e w2 ⟨g, rfl, hB, b2⟩
  have D2 := D1.next b2
  have t2 := Ext.trans t1 b2
  have y2 := D2.cell
  have heq := neq_nought4 y0 y1 y2' y3 w2
  clear A1 D1 t1 x1 b2 hB D2
  by_cases hy : y0 = 0 ∧ y1 = 0 ∧ y2' = 0 ∧ y3 = 0
  · rw [decide_eq_true hy] at heq
    clear hy HB
    rcases HP.out with ⟨q1, q2⟩ | ⟨q1, q2, q3⟩ | ⟨q1, q2, q3⟩ | ⟨q1, q2⟩
    all_goals
      clear HP
      go_wp2
      go_ret
      exact ⟨rfl, t2⟩
  · rw [decide_eq_false hy] at heq
    have ha : a < 0 ∨ (120 < a ∧ a ≠ 124) := HB.out.resolve_left hy
    clear hy HB
    rcases ha with ha | ⟨ha, hb⟩
    · have q1 : decide (0 ≤ a) = false := decide_eq_false (by omega)
      have q2 : (a != 124) = true := by simp; omega
      clear HP ha
      go_wp2
      go_ret
      exact ⟨rfl, t2⟩
    · have q1 : decide (0 ≤ a) = true := decide_eq_true (by omega)
      have q3 : decide (a ≤ 120) = false := decide_eq_false (by omega)
      have q2 : (a != 124) = true := by simp; omega
      clear HP ha hb
      go_wp2
      go_ret
      exact ⟨rfl, t2⟩

set_option maxRecDepth 100000 in
set_option maxHeartbeats 2000000 in
theorem nturns_ok (id age sq : Nat) (st : Int) (B : Option Addr) (m k : Nat) (rs : List NRec) (p : Nat) (y0 y1 y2' y3 : UInt8) (hm : m ≤ 1000) (ws : List UInt8) (hws : ws.length = 128 ∧ Sealed ws)
    (h1 : ∀ W, Rs W B m rs → Calls Try.prog 11 #[.agg #[.int .u32 (id : Int), .int .u32 (age : Int), .int .u32 (sq : Int), .int .i64 st, .slice B m k]] W fun e w' => ∃ g, e = .returned (.tuple #[.slice (some ⟨g, 0, none⟩) 128 128, .int .i64 0]) ∧ W.heap.size ≤ g ∧ Box w' g ws ∧ Below W.heap.size W w')
    (hy : ¬ (y0 = 0 ∧ y1 = 0 ∧ y2' = 0 ∧ y3 = 0)) (hp : p ≤ 120 ∨ p = 124) (w : World) (hR : Rs w B m rs) : Calls Try.prog 5 #[.agg #[.int .u32 (id : Int), .int .u32 (age : Int), .int .u32 (sq : Int), .int .i64 st, .slice B m k], .int .i64 (p : Int), .agg #[.int .u8 (y0.toNat : Int), .int .u8 (y1.toNat : Int), .int .u8 (y2'.toNat : Int), .int .u8 (y3.toNat : Int)]] w fun e w' => e = .returned (.bool true) ∧ Below w.heap.size w w' := by
  have HW := Lib.hid h1
  have HU := Lib.hid (turned_unsealed ws y0 y1 y2' y3 p hws.2 hp hy)
  have hlen := hws.1
  clear h1 hws
  go_enter Try.func5, Try.ntmps5
  go_wp2_with fail
  have A0 := BoxOf.alloc (BoxOf.new w #[.int .u32 (id : Int), .int .u32 (age : Int), .int .u32 (sq : Int), .int .i64 st, .slice B m k] 25) (.cells #[.int .u8 (y0.toNat : Int), .int .u8 (y1.toNat : Int), .int .u8 (y2'.toNat : Int), .int .u8 (y3.toNat : Int)] 36)
  have D0 := BoxOf.new' (w.alloc (.cells #[.int .u32 (id : Int), .int .u32 (age : Int), .int .u32 (sq : Int), .int .i64 st, .slice B m k] 25)) (w.heap.size + 1) #[.int .u8 (y0.toNat : Int), .int .u8 (y1.toNat : Int), .int .u8 (y2'.toNat : Int), .int .u8 (y3.toNat : Int)] 36 (by simp)
  have t0 := Ext.alloc (Ext.alloc (Below.refl w.heap.size w) (.cells #[.int .u32 (id : Int), .int .u32 (age : Int), .int .u32 (sq : Int), .int .i64 st, .slice B m k] 25)) (.cells #[.int .u8 (y0.toNat : Int), .int .u8 (y1.toNat : Int), .int .u8 (y2'.toNat : Int), .int .u8 (y3.toNat : Int)] 36)
  refine (nalive_any _).mono ?_
  rintro e w1 ⟨rfl, b1⟩
  have A1 := A0.next b1
  have D1 := D0.next b1
  have t1 := Ext.trans t0 b1
  have x1 := A1.cell
  clear A0 D0 t0 b1
  have d1 : decide ((1000 : Int) < (m : Int)) = false := decide_eq_false (by omega)
  have d2 : ¬ (1000 : Int) < (m : Int) := by omega
  go_wp2_with fail
  clear d1 d2
  refine (HW.out _ (hR.below t1)).mono ?_
  rintro e w2 ⟨g, rfl, hg, hB, b2⟩
  have hgg : w.heap.size + 1 < g := Nat.lt_of_lt_of_le D1.lt hg
  have D2 := D1.next b2
  have t2 := Ext.trans t1 b2
  have y2 := D2.cell
  have heq := neq_nought4 y0 y1 y2' y3 w2
  rw [decide_eq_false hy] at heq
  have own0 := hB.own
  generalize hL : ws = bs at *
  clear A1 D1 t1 x1 b2 hB hy hL hg
  have HD := Lib.hid D2
  have HY : Hid (∀ k, k < 4 → w2.cell? ⟨w.heap.size + 1, k, none⟩ = some (.int .u8 (([y0, y1, y2', y3].getD k 0).toNat : Int))) := by
    intro k hk
    rw [y2]
    rcases k with _ | _ | _ | _ | k <;> first | rfl | omega
  clear D2
  have hgl : g < w2.heap.size := own_lt own0 rfl
  have e0 : decide ((0 : Int) ≤ (p : Int)) = true := decide_eq_true (by omega)
  have hp4 : p + 4 ≤ 128 := by omega
  rcases hp with hp | hp
  · have e3 : decide ((p : Int) ≤ 120) = true := decide_eq_true (by omega)
    have e4 : decide (p ≤ 120) = true := decide_eq_true (by omega)
    go_wp2
    clear e0 e3 e4 heq
    go_loopw [11] (fun i wr => ∃ k : Nat, k ≤ 4 ∧ i = .int .i64 (3 - (k : Int)) ∧ wr.ownsRow g 71 1 (.slice (some ⟨g, 0, none⟩) 128 128) 128 ((tdown bs [y0, y1, y2', y3] p k).map byteV) ∧ Below g w2 wr) (fun i _ => (intOf i + 1).toNat)
    case atStart => exact ⟨0, by omega, rfl, own0, Below.refl _ _⟩
    case round =>
      obtain ⟨k, hk, rfl, own, bw⟩ := hrel
      by_cases hk4 : k < 4
      · obtain ⟨j, hj⟩ : ∃ j : Nat, j = 3 - k := ⟨_, rfl⟩
        have hjI : (3 : Int) - (k : Int) = (j : Int) := by omega
        have hjn : (j : Int) - 1 = 3 - ((k + 1 : Nat) : Int) := by omega
        have hj4 : j < 4 := by omega
        rw [hjI]
        have hlen' : (tdown bs [y0, y1, y2', y3] p k).length = 128 := by rw [tdown_length, hlen]
        have cy := (bw.cell (p := ⟨w.heap.size + 1, j, none⟩) (by simpa using hgg)).trans (HY.out j hj4)
        have cz : wr.cell? ⟨g, p + j, none⟩ = some (.int .u8 (((tdown bs [y0, y1, y2', y3] p k).getD (p + j) 0).toNat : Int)) := by
          rw [own.cellAt (p + j) (by omega)]
          simp [byteV, show p + j < (tdown bs [y0, y1, y2', y3] p k).length by omega]
        have fz := own.frozenAt (p + j)
        have hx := u8_xor_b ((tdown bs [y0, y1, y2', y3] p k).getD (p + j) 0) ([y0, y1, y2', y3].getD j 0)
        have st := own.stored (p + j) (byteV ((tdown bs [y0, y1, y2', y3] p k).getD (p + j) 0 ^^^ [y0, y1, y2', y3].getD j 0))
        rw [← List.map_set] at st
        have OWN : Hid ((wr.setCell ⟨g, p + j, none⟩ (byteV ((tdown bs [y0, y1, y2', y3] p k).getD (p + j) 0 ^^^ [y0, y1, y2', y3].getD j 0))).ownsRow g 71 1 (.slice (some ⟨g, 0, none⟩) 128 128) 128 ((tdown bs [y0, y1, y2', y3] p (k + 1)).map byteV)) := by
          rw [tdown_succ, ← hj]; exact st.1
        clear st own own0 y2
        generalize (tdown bs [y0, y1, y2', y3] p k).getD (p + j) 0 = b at cz hx OWN
        generalize [y0, y1, y2', y3].getD j 0 = y at cy hx OWN
        generalize b ^^^ y = z at hx OWN
        have HJN := Lib.hid hjn
        clear hj hjI hjn
        go_wp2
        go_region
        go_wp2
        go_roundw
        case rel => exact ⟨k + 1, by omega, by rw [HJN.out], OWN.out.drew, (bw.setCell (Nat.le_refl _) _).drew⟩
        case measure => simp [intOf]
      · have hk' : k = 4 := by omega
        rw [hk', tdown_four _ _ _ (by omega)] at own
        have hd := Bs.of_ownS own
        have bt : Below w.heap.size w wr := t2.trans (bw.mono (by omega))
        subst hk'
        clear own own0 y2
        have hc := nread_no (.inr rfl) (fun i1 i2 i3 i4 i5 h => HU.out h.sealed) _ 128 wr hd
        have HC := Lib.hid hc
        clear hc hd
        go_wp2_with fail
        refine HC.out.mono ?_
        rintro e w4 ⟨rfl, b4⟩
        have t5 := Ext.alloc (Ext.trans bt b4) (.cells #[.int .u32 0, .int .u32 0, .int .u32 0, .int .i64 0, .slice none 0 0] 25)
        go_wp2
        go_ret
        exact ⟨rfl, t5⟩
  · have e3 : decide ((p : Int) ≤ 120) = false := decide_eq_false (by omega)
    have e4 : decide (p ≤ 120) = false := decide_eq_false (by omega)
    have e5 : ((p : Int) != 124) = false := by simp; omega
    clear hp
    go_wp2
    clear e0 e3 e4 e5 heq
    go_loopw [11] (fun i wr => ∃ k : Nat, k ≤ 4 ∧ i = .int .i64 (3 - (k : Int)) ∧ wr.ownsRow g 71 1 (.slice (some ⟨g, 0, none⟩) 128 128) 128 ((tdown bs [y0, y1, y2', y3] p k).map byteV) ∧ Below g w2 wr) (fun i _ => (intOf i + 1).toNat)
    case atStart => exact ⟨0, by omega, rfl, own0, Below.refl _ _⟩
    case round =>
      obtain ⟨k, hk, rfl, own, bw⟩ := hrel
      by_cases hk4 : k < 4
      · obtain ⟨j, hj⟩ : ∃ j : Nat, j = 3 - k := ⟨_, rfl⟩
        have hjI : (3 : Int) - (k : Int) = (j : Int) := by omega
        have hjn : (j : Int) - 1 = 3 - ((k + 1 : Nat) : Int) := by omega
        have hj4 : j < 4 := by omega
        rw [hjI]
        have hlen' : (tdown bs [y0, y1, y2', y3] p k).length = 128 := by rw [tdown_length, hlen]
        have cy := (bw.cell (p := ⟨w.heap.size + 1, j, none⟩) (by simpa using hgg)).trans (HY.out j hj4)
        have cz : wr.cell? ⟨g, p + j, none⟩ = some (.int .u8 (((tdown bs [y0, y1, y2', y3] p k).getD (p + j) 0).toNat : Int)) := by
          rw [own.cellAt (p + j) (by omega)]
          simp [byteV, show p + j < (tdown bs [y0, y1, y2', y3] p k).length by omega]
        have fz := own.frozenAt (p + j)
        have hx := u8_xor_b ((tdown bs [y0, y1, y2', y3] p k).getD (p + j) 0) ([y0, y1, y2', y3].getD j 0)
        have st := own.stored (p + j) (byteV ((tdown bs [y0, y1, y2', y3] p k).getD (p + j) 0 ^^^ [y0, y1, y2', y3].getD j 0))
        rw [← List.map_set] at st
        have OWN : Hid ((wr.setCell ⟨g, p + j, none⟩ (byteV ((tdown bs [y0, y1, y2', y3] p k).getD (p + j) 0 ^^^ [y0, y1, y2', y3].getD j 0))).ownsRow g 71 1 (.slice (some ⟨g, 0, none⟩) 128 128) 128 ((tdown bs [y0, y1, y2', y3] p (k + 1)).map byteV)) := by
          rw [tdown_succ, ← hj]; exact st.1
        clear st own own0 y2
        generalize (tdown bs [y0, y1, y2', y3] p k).getD (p + j) 0 = b at cz hx OWN
        generalize [y0, y1, y2', y3].getD j 0 = y at cy hx OWN
        generalize b ^^^ y = z at hx OWN
        have HJN := Lib.hid hjn
        clear hj hjI hjn
        go_wp2
        go_region
        go_wp2
        go_roundw
        case rel => exact ⟨k + 1, by omega, by rw [HJN.out], OWN.out.drew, (bw.setCell (Nat.le_refl _) _).drew⟩
        case measure => simp [intOf]
      · have hk' : k = 4 := by omega
        rw [hk', tdown_four _ _ _ (by omega)] at own
        have hd := Bs.of_ownS own
        have bt : Below w.heap.size w wr := t2.trans (bw.mono (by omega))
        subst hk'
        clear own own0 y2
        have hc := nread_no (.inr rfl) (fun i1 i2 i3 i4 i5 h => HU.out h.sealed) _ 128 wr hd
        have HC := Lib.hid hc
        clear hc hd
        go_wp2_with fail
        refine HC.out.mono ?_
        rintro e w4 ⟨rfl, b4⟩
        have t5 := Ext.alloc (Ext.trans bt b4) (.cells #[.int .u32 0, .int .u32 0, .int .u32 0, .int .i64 0, .slice none 0 0] 25)
        go_wp2
        go_ret
        exact ⟨rfl, t5⟩

theorem nturns_all (id age sq : Nat) (st : Int) (B : Option Addr) (m k : Nat) (rs : List NRec) (b1 : id < 4294967296) (hb : ∀ r ∈ rs, r.sl < 256 ∧ r.su < 4294967296) (a : Int) (y0 y1 y2' y3 : UInt8) (w : World) (hR : Rs w B m rs) : Calls Try.prog 5 #[.agg #[.int .u32 (id : Int), .int .u32 (age : Int), .int .u32 (sq : Int), .int .i64 st, .slice B m k], .int .i64 a, .agg #[.int .u8 (y0.toNat : Int), .int .u8 (y1.toNat : Int), .int .u8 (y2'.toNat : Int), .int .u8 (y3.toNat : Int)]] w fun e w' => e = .returned (.bool true) ∧ Below w.heap.size w w' := by
  by_cases hm : 1000 < m
  · exact nturns_long id age sq st B m k a y0 y1 y2' y3 hm w
  cases hB : noteB age sq st rs with
  | false => exact nturns_bad id age sq st B m k rs a y0 y1 y2' y3 (by omega) (fun W h => nwrite_bad id age sq st B m k rs (by omega) (fun r h => (hb r h).1) hB W h) w hR
  | true =>
    have hp := noteB_parts hB
    obtain ⟨s, rfl⟩ : ∃ s : Nat, st = (s : Int) := ⟨st.toNat, by omega⟩
    have hw : ∀ W, Rs W B m rs → Calls Try.prog 11 #[.agg #[.int .u32 (id : Int), .int .u32 (age : Int), .int .u32 (sq : Int), .int .i64 (s : Int), .slice B m k]] W fun e w' => ∃ g, e = .returned (.tuple #[.slice (some ⟨g, 0, none⟩) 128 128, .int .i64 0]) ∧ W.heap.size ≤ g ∧ Box w' g (noteBlock id age sq s rs) ∧ Below W.heap.size W w' := by
      intro W h
      obtain ⟨b, off, rfl, _⟩ := h.cells (by have := h.1; omega)
      exact nwrite_at id age sq s b off m k rs b1 hp.2.2.2.2.1 hp.2.2.2.2.2 (fun r h => (hb r h).1) (fun r h => (hb r h).2) hB W h
    by_cases hc : (y0 = 0 ∧ y1 = 0 ∧ y2' = 0 ∧ y3 = 0) ∨ a < 0 ∨ (120 < a ∧ a ≠ 124)
    · exact nturns_none id age sq s B m k rs a y0 y1 y2' y3 (by omega) _ (fun W h => (hw W h).mono fun e w' ⟨g, he, _, hB, hbl⟩ => ⟨g, he, hB, hbl⟩) hc w hR
    · have hy : ¬ (y0 = 0 ∧ y1 = 0 ∧ y2' = 0 ∧ y3 = 0) := fun h => hc (.inl h)
      obtain ⟨p, rfl⟩ : ∃ n : Nat, a = (n : Int) := ⟨a.toNat, by omega⟩
      exact nturns_ok id age sq s B m k rs p y0 y1 y2' y3 (by omega) _ (note_len b1 hb hB) hw hy (by omega) w hR

theorem noteTurns_walk (w : World) (cs : List Value) (y : (Ty.st (.prod .u32 (.prod .u32 (.prod .u32 (.prod .int (.prod (.sl (Ty.st (.prod .byte (.prod .bool (.prod .u32 .unit))))) .unit)))))).T) (h0 : Reads w (Ty.st (.prod .u32 (.prod .u32 (.prod .u32 (.prod .int (.prod (.sl (Ty.st (.prod .byte (.prod .bool (.prod .u32 .unit))))) .unit)))))) y cs) (v1 : Value) (a : Ty.int.T) (h1 : Reads w .int a [v1]) (ds : List Value) (ys : (Ty.arr 4 .byte).T) (h2 : Reads w (.arr 4 .byte) ys ds) :
    Calls Try.prog 5 #[.agg cs.toArray, v1, .agg ds.toArray] w fun e w' => e = .returned (.bool true) ∧ Below w.heap.size w w' := by
  obtain ⟨id, age, sq, st, B, m, k, rs, hx, b1, b2, b3, _, _, _, hR, hb⟩ := note_open h0
  obtain ⟨rfl, _⟩ := one_int h1
  obtain ⟨y0, y1, y2', y3, _, hc⟩ := narr4_open h2
  rw [hx, hc]
  exact nturns_all id age sq st B m k rs b1 hb a y0 y1 y2' y3 w hR
end Go.Proofs.Ytggdfecgkhnkkaa
