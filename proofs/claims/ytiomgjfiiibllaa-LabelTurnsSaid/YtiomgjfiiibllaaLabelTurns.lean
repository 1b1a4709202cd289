/- Layer 9 (label): a block with bytes turned is none: the statement. -/
import Derived.Test.YtiomgjfiiibllaaLabelLaws
import Derived.Test.YtiomgjfiiibllaaPackRef
namespace Go.Proofs.Ytiomgjfiiibllaa
open Go Go.RowKit
set_option linter.unusedSimpArgs false
set_option linter.unusedVariables false

set_option maxRecDepth 100000 in
theorem leq_nought4 (y0 y1 y2 y3 : UInt8) (w : World) : (Op.equalIn 10000 42 (.agg #[.int .u8 y0.toNat, .int .u8 y1.toNat, .int .u8 y2.toNat, .int .u8 y3.toNat]) (.agg #[.int .u8 0, .int .u8 0, .int .u8 0, .int .u8 0])).run Try.prog w =
    .ok (decide (y0 = 0 ∧ y1 = 0 ∧ y2 = 0 ∧ y3 = 0)) w := by
  obtain ⟨i0, hi, _, hz1, _⟩ := info_b
  have h := run_eq_arr4 w 9998 42 5 i0 .u8 (y0.toNat : Int) y1.toNat y2.toNat y3.toNat 0 0 0 0 Try.underlying42 Try.underlying5 hi hz1
  simp only [Nat.reduceAdd] at h
  rw [h]
  congr 1
  have e : ∀ y : UInt8, ((y.toNat : Int) == 0) = decide (y = 0) := by
    intro y
    rw [Bool.eq_iff_iff]
    simp only [beq_iff_eq, decide_eq_true_eq]
    rw [← UInt8.toNat_inj]
    simp
  simp only [e, Bool.decide_and]

theorem larr4_open {w : World} {cs : List Value} {xs : List UInt8} (h : Reads w (.arr 4 .byte) xs cs) : ∃ y0 y1 y2 y3 : UInt8, xs = [y0, y1, y2, y3] ∧ cs.toArray = #[.int .u8 y0.toNat, .int .u8 y1.toNat, .int .u8 y2.toNat, .int .u8 y3.toNat] := by
  obtain ⟨hl, hc, hr⟩ := reads_arr.1 h
  match xs, hl with
  | [y0, y1, y2, y3], _ =>
    match cs, hc with
    | [c0, c1, c2, c3], _ =>
      have h0 : _ = [byteV y0] := reads_byte.1 (hr 0 (show 0 < 4 by decide))
      have h1 : _ = [byteV y1] := reads_byte.1 (hr 1 (show 1 < 4 by decide))
      have h2 : _ = [byteV y2] := reads_byte.1 (hr 2 (show 2 < 4 by decide))
      have h3 : _ = [byteV y3] := reads_byte.1 (hr 3 (show 3 < 4 by decide))
      simp [Ty.size, byteV] at h0 h1 h2 h3
      refine ⟨y0, y1, y2, y3, rfl, ?_⟩
      rw [h0, h1, h2, h3]

set_option maxRecDepth 100000 in
theorem lturns_bad (id ev : Nat) (m c r l me lost dn : Int) (op : Bool) (a : Int) (y0 y1 y2' y3 : UInt8)
    (h1 : ∀ W, Calls Try.prog 10 #[.agg #[.int .u32 (id : Int), .int .u32 (ev : Int), .int .i64 m, .int .i64 c, .int .i64 r, .int .i64 l, .int .i64 me, .int .i64 lost, .int .i64 dn, .bool op]] W fun e w' => e = .returned (.tuple #[.slice none 0 0, .int .i64 8]) ∧ Below W.heap.size W w') (w : World) : Calls Try.prog 7 #[.agg #[.int .u32 (id : Int), .int .u32 (ev : Int), .int .i64 m, .int .i64 c, .int .i64 r, .int .i64 l, .int .i64 me, .int .i64 lost, .int .i64 dn, .bool op], .int .i64 a, .agg #[.int .u8 (y0.toNat : Int), .int .u8 (y1.toNat : Int), .int .u8 (y2'.toNat : Int), .int .u8 (y3.toNat : Int)]] w fun e w' => e = .returned (.bool true) ∧ Below w.heap.size w w' := by
  have HW := Lib.hid h1
  clear h1
  go_enter Try.func7, Try.ntmps7
  go_wp2_with fail
  have A0 := BoxOf.alloc (BoxOf.new w #[.int .u32 (id : Int), .int .u32 (ev : Int), .int .i64 m, .int .i64 c, .int .i64 r, .int .i64 l, .int .i64 me, .int .i64 lost, .int .i64 dn, .bool op] 24) (.cells #[.int .u8 (y0.toNat : Int), .int .u8 (y1.toNat : Int), .int .u8 (y2'.toNat : Int), .int .u8 (y3.toNat : Int)] 42)
  have D0 := BoxOf.new' (w.alloc (.cells #[.int .u32 (id : Int), .int .u32 (ev : Int), .int .i64 m, .int .i64 c, .int .i64 r, .int .i64 l, .int .i64 me, .int .i64 lost, .int .i64 dn, .bool op] 24)) (w.heap.size + 1) #[.int .u8 (y0.toNat : Int), .int .u8 (y1.toNat : Int), .int .u8 (y2'.toNat : Int), .int .u8 (y3.toNat : Int)] 42 (by simp)
  have t0 := Ext.alloc (Ext.alloc (Below.refl w.heap.size w) (.cells #[.int .u32 (id : Int), .int .u32 (ev : Int), .int .i64 m, .int .i64 c, .int .i64 r, .int .i64 l, .int .i64 me, .int .i64 lost, .int .i64 dn, .bool op] 24)) (.cells #[.int .u8 (y0.toNat : Int), .int .u8 (y1.toNat : Int), .int .u8 (y2'.toNat : Int), .int .u8 (y3.toNat : Int)] 42)
  refine (lalive_any _).mono ?_
  rintro e w1 ⟨rfl, b1⟩
  have A1 := A0.next b1
  have D1 := D0.next b1
  have t1 := Ext.trans t0 b1
  have x1 := A1.cell
  clear A0 D0 t0 b1
  go_wp2_with fail
  refine (HW.out _).mono ?_
  rintro e w2 ⟨rfl, b2⟩
  have t2 := Ext.trans t1 b2
  clear A1 D1 t1 x1 b2
  go_wp2
  go_ret
  exact ⟨rfl, t2⟩
set_option maxRecDepth 100000 in
set_option maxHeartbeats 1000000 in
theorem lturns_none (id ev m c r l me lo dn : Nat) (op : Bool) (a : Int) (hi : id < 4294967296) (hok : (lab id ev m c r l me lo dn op).Ok) (y0 y1 y2' y3 : UInt8)
    (hb : a < 0 ∨ (0 ≤ a ∧ 124 < a) ∨ ((0 ≤ a ∧ a ≤ 124) ∧ 120 < a ∧ a < 124) ∨ ((0 ≤ a ∧ a ≤ 120) ∧ y0 = 0 ∧ y1 = 0 ∧ y2' = 0 ∧ y3 = 0) ∨ (a = 124 ∧ y0 = 0 ∧ y1 = 0 ∧ y2' = 0 ∧ y3 = 0)) (w : World) : Calls Try.prog 7 #[.agg #[.int .u32 (id : Int), .int .u32 (ev : Int), .int .i64 (m : Int), .int .i64 (c : Int), .int .i64 (r : Int), .int .i64 (l : Int), .int .i64 (me : Int), .int .i64 (lostI lo), .int .i64 (dn : Int), .bool op], .int .i64 a, .agg #[.int .u8 (y0.toNat : Int), .int .u8 (y1.toNat : Int), .int .u8 (y2'.toNat : Int), .int .u8 (y3.toNat : Int)]] w fun e w' => e = .returned (.bool true) ∧ Below w.heap.size w w' := by
  have HW := Lib.hid (lwrite_ok id ev m c r l me lo dn op hi hok)
  have HB := Lib.hid hb
  clear hb hi hok
  go_enter Try.func7, Try.ntmps7
  go_wp2_with fail
  have A0 := BoxOf.alloc (BoxOf.new w #[.int .u32 (id : Int), .int .u32 (ev : Int), .int .i64 (m : Int), .int .i64 (c : Int), .int .i64 (r : Int), .int .i64 (l : Int), .int .i64 (me : Int), .int .i64 (lostI lo), .int .i64 (dn : Int), .bool op] 24) (.cells #[.int .u8 (y0.toNat : Int), .int .u8 (y1.toNat : Int), .int .u8 (y2'.toNat : Int), .int .u8 (y3.toNat : Int)] 42)
  have D0 := BoxOf.new' (w.alloc (.cells #[.int .u32 (id : Int), .int .u32 (ev : Int), .int .i64 (m : Int), .int .i64 (c : Int), .int .i64 (r : Int), .int .i64 (l : Int), .int .i64 (me : Int), .int .i64 (lostI lo), .int .i64 (dn : Int), .bool op] 24)) (w.heap.size + 1) #[.int .u8 (y0.toNat : Int), .int .u8 (y1.toNat : Int), .int .u8 (y2'.toNat : Int), .int .u8 (y3.toNat : Int)] 42 (by simp)
  have t0 := Ext.alloc (Ext.alloc (Below.refl w.heap.size w) (.cells #[.int .u32 (id : Int), .int .u32 (ev : Int), .int .i64 (m : Int), .int .i64 (c : Int), .int .i64 (r : Int), .int .i64 (l : Int), .int .i64 (me : Int), .int .i64 (lostI lo), .int .i64 (dn : Int), .bool op] 24)) (.cells #[.int .u8 (y0.toNat : Int), .int .u8 (y1.toNat : Int), .int .u8 (y2'.toNat : Int), .int .u8 (y3.toNat : Int)] 42)
  refine (lalive_any _).mono ?_
  rintro e w1 ⟨rfl, b1⟩
  have A1 := A0.next b1
  have D1 := D0.next b1
  have t1 := Ext.trans t0 b1
  have x1 := A1.cell
  clear A0 D0 t0 b1
  go_wp2_with fail
  refine (HW.out _).mono ?_
  rintro e w2 ⟨g, rfl, hg, hB, b2⟩
  have D2 := D1.next b2
  have t2 := Ext.trans t1 b2
  have y2 := D2.cell
  have heq := leq_nought4 y0 y1 y2' y3 w2
  clear A1 D1 t1 x1 b2 hB hg D2
  rcases HB.out with h | ⟨h1, h2⟩ | ⟨⟨h1, h2⟩, h3, h4⟩ | ⟨⟨h1, h2⟩, hy⟩ | ⟨h1, hy⟩
  · have q1 : decide (a < 0) = true := decide_eq_true h
    go_wp2
    go_ret
    exact ⟨rfl, t2⟩
  · have q1 : decide (a < 0) = false := decide_eq_false (by omega)
    have q2 : decide (124 < a) = true := decide_eq_true h2
    go_wp2
    go_ret
    exact ⟨rfl, t2⟩
  · have q1 : decide (a < 0) = false := decide_eq_false (by omega)
    have q2 : decide (124 < a) = false := decide_eq_false (by omega)
    have q3 : decide (120 < a) = true := decide_eq_true h3
    have q4 : decide (a < 124) = true := decide_eq_true h4
    go_wp2
    go_ret
    exact ⟨rfl, t2⟩
  · have q1 : decide (a < 0) = false := decide_eq_false (by omega)
    have q2 : decide (124 < a) = false := decide_eq_false (by omega)
    have q3 : decide (120 < a) = false := decide_eq_false (by omega)
    rw [decide_eq_true hy] at heq
    clear hy HB
    go_wp2
    go_ret
    exact ⟨rfl, t2⟩
  · have q1 : decide (a < 0) = false := decide_eq_false (by omega)
    have q2 : decide (124 < a) = false := decide_eq_false (by omega)
    have q3 : decide (120 < a) = true := decide_eq_true (by omega)
    have q4 : decide (a < 124) = false := decide_eq_false (by omega)
    rw [decide_eq_true hy] at heq
    clear hy HB h1
    go_wp2
    go_ret
    exact ⟨rfl, t2⟩

set_option maxRecDepth 100000 in
set_option maxHeartbeats 1000000 in
theorem lturns_ok (id ev m c r l me lo dn : Nat) (op : Bool) (p : Nat) (hi : id < 4294967296) (hok : (lab id ev m c r l me lo dn op).Ok) (y0 y1 y2' y3 : UInt8)
    (hy : ¬ (y0 = 0 ∧ y1 = 0 ∧ y2' = 0 ∧ y3 = 0)) (hp : p ≤ 120 ∨ p = 124) (w : World) : Calls Try.prog 7 #[.agg #[.int .u32 (id : Int), .int .u32 (ev : Int), .int .i64 (m : Int), .int .i64 (c : Int), .int .i64 (r : Int), .int .i64 (l : Int), .int .i64 (me : Int), .int .i64 (lostI lo), .int .i64 (dn : Int), .bool op], .int .i64 (p : Int), .agg #[.int .u8 (y0.toNat : Int), .int .u8 (y1.toNat : Int), .int .u8 (y2'.toNat : Int), .int .u8 (y3.toNat : Int)]] w fun e w' => e = .returned (.bool true) ∧ Below w.heap.size w w' := by
  have HW := Lib.hid (lwrite_ok id ev m c r l me lo dn op hi hok)
  have HU := Lib.hid (turned_unsealed (labBlock id ev m c r l me lo dn op) y0 y1 y2' y3 p (labBlock_sealed id ev m c r l me lo dn op) hp hy)
  have hlen := labBlock_len id ev m c r l me lo dn op
  clear hi hok
  go_enter Try.func7, Try.ntmps7
  go_wp2_with fail
  have A0 := BoxOf.alloc (BoxOf.new w #[.int .u32 (id : Int), .int .u32 (ev : Int), .int .i64 (m : Int), .int .i64 (c : Int), .int .i64 (r : Int), .int .i64 (l : Int), .int .i64 (me : Int), .int .i64 (lostI lo), .int .i64 (dn : Int), .bool op] 24) (.cells #[.int .u8 (y0.toNat : Int), .int .u8 (y1.toNat : Int), .int .u8 (y2'.toNat : Int), .int .u8 (y3.toNat : Int)] 42)
  have D0 := BoxOf.new' (w.alloc (.cells #[.int .u32 (id : Int), .int .u32 (ev : Int), .int .i64 (m : Int), .int .i64 (c : Int), .int .i64 (r : Int), .int .i64 (l : Int), .int .i64 (me : Int), .int .i64 (lostI lo), .int .i64 (dn : Int), .bool op] 24)) (w.heap.size + 1) #[.int .u8 (y0.toNat : Int), .int .u8 (y1.toNat : Int), .int .u8 (y2'.toNat : Int), .int .u8 (y3.toNat : Int)] 42 (by simp)
  have t0 := Ext.alloc (Ext.alloc (Below.refl w.heap.size w) (.cells #[.int .u32 (id : Int), .int .u32 (ev : Int), .int .i64 (m : Int), .int .i64 (c : Int), .int .i64 (r : Int), .int .i64 (l : Int), .int .i64 (me : Int), .int .i64 (lostI lo), .int .i64 (dn : Int), .bool op] 24)) (.cells #[.int .u8 (y0.toNat : Int), .int .u8 (y1.toNat : Int), .int .u8 (y2'.toNat : Int), .int .u8 (y3.toNat : Int)] 42)
  refine (lalive_any _).mono ?_
  rintro e w1 ⟨rfl, b1⟩
  have A1 := A0.next b1
  have D1 := D0.next b1
  have t1 := Ext.trans t0 b1
  have x1 := A1.cell
  clear A0 D0 t0 b1
  go_wp2_with fail
  refine (HW.out _).mono ?_
  rintro e w2 ⟨g, rfl, hg, hB, b2⟩
  have D2 := D1.next b2
  have t2 := Ext.trans t1 b2
  have y2 := D2.cell
  have heq := leq_nought4 y0 y1 y2' y3 w2
  rw [decide_eq_false hy] at heq
  have hgg : w.heap.size + 1 < g := Nat.lt_of_lt_of_le D1.lt hg
  have own0 := hB.own
  generalize hL : labBlock id ev m c r l me lo dn op = bs at *
  clear A1 D1 t1 x1 b2 hB hg hy hL
  have HD := Lib.hid D2
  have HY : Hid (∀ k, k < 4 → w2.cell? ⟨w.heap.size + 1, k, none⟩ = some (.int .u8 (([y0, y1, y2', y3].getD k 0).toNat : Int))) := by
    intro k hk
    rw [y2]
    rcases k with _ | _ | _ | _ | k <;> first | rfl | omega
  clear D2
  have hgl : g < w2.heap.size := own_lt own0 rfl
  have e0 : decide ((p : Int) < 0) = false := decide_eq_false (by omega)
  have hp4 : p + 4 ≤ 128 := by omega
  have e1 : decide (124 < (p : Int)) = false := decide_eq_false (by omega)
  have e2 : decide (124 < p) = false := decide_eq_false (by omega)
  rcases hp with hp | hp
  · have e3 : decide (120 < (p : Int)) = false := decide_eq_false (by omega)
    have e4 : decide (120 < p) = false := decide_eq_false (by omega)
    go_wp2
    clear e0 e1 e2 e3 e4 heq
    go_loopw [10] (fun i wr => ∃ k : Nat, k ≤ 4 ∧ i = .int .i64 k ∧ wr.ownsRow g 63 1 (.slice (some ⟨g, 0, none⟩) 128 128) 128 ((turned bs [y0, y1, y2', y3] p k).map byteV) ∧ Below g w2 wr) (fun i _ => 4 - (intOf i).toNat)
    case atStart => exact ⟨0, by omega, rfl, own0, Below.refl _ _⟩
    case round =>
      obtain ⟨k, hk, rfl, own, bw⟩ := hrel
      by_cases hk4 : k < 4
      · have hlen' : (turned bs [y0, y1, y2', y3] p k).length = 128 := by rw [turned_length, hlen]
        have cy := (bw.cell (p := ⟨w.heap.size + 1, k, none⟩) (by simpa using hgg)).trans (HY.out k hk4)
        have cz : wr.cell? ⟨g, p + k, none⟩ = some (.int .u8 (((turned bs [y0, y1, y2', y3] p k).getD (p + k) 0).toNat : Int)) := by
          rw [own.cellAt (p + k) (by omega)]
          simp [byteV, show p + k < (turned bs [y0, y1, y2', y3] p k).length by omega]
        have fz := own.frozenAt (p + k)
        have hx := u8_xor_b ((turned bs [y0, y1, y2', y3] p k).getD (p + k) 0) ([y0, y1, y2', y3].getD k 0)
        have st := own.stored (p + k) (byteV ((turned bs [y0, y1, y2', y3] p k).getD (p + k) 0 ^^^ [y0, y1, y2', y3].getD k 0))
        rw [← List.map_set] at st
        have OWN : Hid ((wr.setCell ⟨g, p + k, none⟩ (byteV ((turned bs [y0, y1, y2', y3] p k).getD (p + k) 0 ^^^ [y0, y1, y2', y3].getD k 0))).ownsRow g 63 1 (.slice (some ⟨g, 0, none⟩) 128 128) 128 ((turned bs [y0, y1, y2', y3] p (k + 1)).map byteV)) := st.1
        clear st own own0 y2
        generalize (turned bs [y0, y1, y2', y3] p k).getD (p + k) 0 = b at cz hx OWN
        generalize [y0, y1, y2', y3].getD k 0 = y at cy hx OWN
        generalize b ^^^ y = z at hx OWN
        go_wp2
        go_region
        go_wp2
        go_roundw
        case rel => exact ⟨k + 1, by omega, by go_num, OWN.out.drew, (bw.setCell (Nat.le_refl _) _).drew⟩
        case measure => simp [intOf]; omega
      · have hk' : k = 4 := by omega
        rw [hk'] at own
        have hd := Bs.of_ownS own
        have bt : Below w.heap.size w wr := t2.trans (bw.mono (by omega))
        have HK := Lib.hid hk'
        clear hk' own own0 y2
        have hc := lread_no (.inr rfl) (fun i1 i2 i3 i4 i5 i6 i7 i8 i9 i10 h => HU.out (lab_sealed h)) _ 128 wr hd
        have HC := Lib.hid hc
        clear hc hd
        go_wp2_with fail
        refine HC.out.mono ?_
        rintro e w4 ⟨rfl, b4⟩
        have t5 := Ext.alloc (Ext.trans bt b4) (.cells #[.int .u32 0, .int .u32 0, .int .i64 0, .int .i64 0, .int .i64 0, .int .i64 0, .int .i64 0, .int .i64 0, .int .i64 0, .bool false] 24)
        go_wp2
        go_ret
        exact ⟨rfl, t5⟩
  · have e3 : decide ((p : Int) < 124) = false := decide_eq_false (by omega)
    have e4 : decide (p < 124) = false := decide_eq_false (by omega)
    have e5 : decide (120 < (p : Int)) = true := decide_eq_true (by omega)
    have e6 : decide (120 < p) = true := decide_eq_true (by omega)
    clear hp
    go_wp2
    clear e0 e1 e2 e3 e4 e5 e6 heq
    go_loopw [10] (fun i wr => ∃ k : Nat, k ≤ 4 ∧ i = .int .i64 k ∧ wr.ownsRow g 63 1 (.slice (some ⟨g, 0, none⟩) 128 128) 128 ((turned bs [y0, y1, y2', y3] p k).map byteV) ∧ Below g w2 wr) (fun i _ => 4 - (intOf i).toNat)
    case atStart => exact ⟨0, by omega, rfl, own0, Below.refl _ _⟩
    case round =>
      obtain ⟨k, hk, rfl, own, bw⟩ := hrel
      by_cases hk4 : k < 4
      · have hlen' : (turned bs [y0, y1, y2', y3] p k).length = 128 := by rw [turned_length, hlen]
        have cy := (bw.cell (p := ⟨w.heap.size + 1, k, none⟩) (by simpa using hgg)).trans (HY.out k hk4)
        have cz : wr.cell? ⟨g, p + k, none⟩ = some (.int .u8 (((turned bs [y0, y1, y2', y3] p k).getD (p + k) 0).toNat : Int)) := by
          rw [own.cellAt (p + k) (by omega)]
          simp [byteV, show p + k < (turned bs [y0, y1, y2', y3] p k).length by omega]
        have fz := own.frozenAt (p + k)
        have hx := u8_xor_b ((turned bs [y0, y1, y2', y3] p k).getD (p + k) 0) ([y0, y1, y2', y3].getD k 0)
        have st := own.stored (p + k) (byteV ((turned bs [y0, y1, y2', y3] p k).getD (p + k) 0 ^^^ [y0, y1, y2', y3].getD k 0))
        rw [← List.map_set] at st
        have OWN : Hid ((wr.setCell ⟨g, p + k, none⟩ (byteV ((turned bs [y0, y1, y2', y3] p k).getD (p + k) 0 ^^^ [y0, y1, y2', y3].getD k 0))).ownsRow g 63 1 (.slice (some ⟨g, 0, none⟩) 128 128) 128 ((turned bs [y0, y1, y2', y3] p (k + 1)).map byteV)) := st.1
        clear st own own0 y2
        generalize (turned bs [y0, y1, y2', y3] p k).getD (p + k) 0 = b at cz hx OWN
        generalize [y0, y1, y2', y3].getD k 0 = y at cy hx OWN
        generalize b ^^^ y = z at hx OWN
        go_wp2
        go_region
        go_wp2
        go_roundw
        case rel => exact ⟨k + 1, by omega, by go_num, OWN.out.drew, (bw.setCell (Nat.le_refl _) _).drew⟩
        case measure => simp [intOf]; omega
      · have hk' : k = 4 := by omega
        rw [hk'] at own
        have hd := Bs.of_ownS own
        have bt : Below w.heap.size w wr := t2.trans (bw.mono (by omega))
        have HK := Lib.hid hk'
        clear hk' own own0 y2
        have hc := lread_no (.inr rfl) (fun i1 i2 i3 i4 i5 i6 i7 i8 i9 i10 h => HU.out (lab_sealed h)) _ 128 wr hd
        have HC := Lib.hid hc
        clear hc hd
        go_wp2_with fail
        refine HC.out.mono ?_
        rintro e w4 ⟨rfl, b4⟩
        have t5 := Ext.alloc (Ext.trans bt b4) (.cells #[.int .u32 0, .int .u32 0, .int .i64 0, .int .i64 0, .int .i64 0, .int .i64 0, .int .i64 0, .int .i64 0, .int .i64 0, .bool false] 24)
        go_wp2
        go_ret
        exact ⟨rfl, t5⟩

theorem lturns_all (x : Lab) (hx : x.id < 4294967296) (a : Int) (y0 y1 y2' y3 : UInt8) (w : World) : Calls Try.prog 7 #[.agg x.cells, .int .i64 a, .agg #[.int .u8 (y0.toNat : Int), .int .u8 (y1.toNat : Int), .int .u8 (y2'.toNat : Int), .int .u8 (y3.toNat : Int)]] w fun e w' => e = .returned (.bool true) ∧ Below w.heap.size w w' := by
  by_cases hok : x.Ok
  · obtain ⟨id, ev, m, c, r, l, me, lo, dn, op, rfl, _, _⟩ := lab_nat x hok
    by_cases hy : y0 = 0 ∧ y1 = 0 ∧ y2' = 0 ∧ y3 = 0
    · have hz : a < 0 ∨ (0 ≤ a ∧ 124 < a) ∨ ((0 ≤ a ∧ a ≤ 124) ∧ 120 < a ∧ a < 124) ∨ (0 ≤ a ∧ a ≤ 120) ∨ a = 124 := by omega
      refine lturns_none id ev m c r l me lo dn op a hx hok y0 y1 y2' y3 ?_ w
      rcases hz with h | h | h | h | h
      · exact .inl h
      · exact .inr (.inl h)
      · exact .inr (.inr (.inl h))
      · exact .inr (.inr (.inr (.inl ⟨h, hy⟩)))
      · exact .inr (.inr (.inr (.inr ⟨h, hy⟩)))
    · by_cases hp : a < 0 ∨ 124 < a ∨ (120 < a ∧ a < 124)
      · exact lturns_none id ev m c r l me lo dn op a hx hok y0 y1 y2' y3 (by omega) w
      · obtain ⟨p, rfl⟩ : ∃ n : Nat, a = (n : Int) := ⟨a.toNat, by omega⟩
        exact lturns_ok id ev m c r l me lo dn op p hx hok y0 y1 y2' y3 hy (by omega) w
  · exact lturns_bad x.id x.ev x.m x.c x.r x.l x.me x.lost x.dn x.op a y0 y1 y2' y3 (lwrite_bad x hok) w

theorem labelTurns_walk (w : World) (cs : List Value) (x : (Ty.st (.prod .u32 (.prod .u32 (.prod .int (.prod .int (.prod .int (.prod .int (.prod .int (.prod .int (.prod .int (.prod .bool .unit))))))))))).T) (h0 : Reads w (Ty.st (.prod .u32 (.prod .u32 (.prod .int (.prod .int (.prod .int (.prod .int (.prod .int (.prod .int (.prod .int (.prod .bool .unit))))))))))) x cs) (v1 : Value) (a : Ty.int.T) (h1 : Reads w .int a [v1]) (ds : List Value) (ys : (Ty.arr 4 .byte).T) (h2 : Reads w (.arr 4 .byte) ys ds) :
    Calls Try.prog 7 #[.agg cs.toArray, v1, .agg ds.toArray] w fun e w' => e = .returned (.bool true) ∧ Below w.heap.size w w' := by
  obtain ⟨x, hx, i1, _⟩ := lab_open h0
  obtain ⟨rfl, _⟩ := one_int h1
  obtain ⟨y0, y1, y2', y3, _, hc⟩ := larr4_open h2
  rw [hx, hc]
  exact lturns_all x i1 a y0 y1 y2' y3 w
end Go.Proofs.Ytiomgjfiiibllaa
