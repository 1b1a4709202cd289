/- Layer 10 (super): a block with bytes turned is none. -/
import Derived.Test.YtgmlhfencidahaaSuperPlain
import Derived.Test.YtgmlhfencidahaaSuperLaws
import Derived.Test.YtgmlhfencidahaaPackRef
namespace Go.Proofs.Ytgmlhfencidahaa
open Go Go.RowKit
set_option linter.unusedSimpArgs false
set_option linter.unusedVariables false

set_option maxRecDepth 100000 in
theorem eq_nought4 (y0 y1 y2 y3 : UInt8) (w : World) : (Op.equalIn 10000 41 (.agg #[.int .u8 y0.toNat, .int .u8 y1.toNat, .int .u8 y2.toNat, .int .u8 y3.toNat]) (.agg #[.int .u8 0, .int .u8 0, .int .u8 0, .int .u8 0])).run Try.prog w =
    .ok (decide (y0 = 0 ∧ y1 = 0 ∧ y2 = 0 ∧ y3 = 0)) w := by
  obtain ⟨i0, hi, _, hz1, _⟩ := info_b
  have h := run_eq_arr4 w 9998 41 5 i0 .u8 (y0.toNat : Int) y1.toNat y2.toNat y3.toNat 0 0 0 0 Try.underlying41 Try.underlying5 hi hz1
  simp only [Nat.reduceAdd] at h
  rw [h]
  congr 1
  have e : ∀ y : UInt8, ((y.toNat : Int) == 0) = decide (y = 0) := by
    intro y
    rw [Bool.eq_iff_iff]
    simp only [beq_iff_eq, decide_eq_true_eq]
    rw [← UInt8.toNat_inj]
    simp
  simp only [e, Bool.decide_and]

theorem arr4_open {w : World} {cs : List Value} {xs : List UInt8} (h : Reads w (.arr 4 .byte) xs cs) : ∃ y0 y1 y2 y3 : UInt8, xs = [y0, y1, y2, y3] ∧ cs.toArray = #[.int .u8 y0.toNat, .int .u8 y1.toNat, .int .u8 y2.toNat, .int .u8 y3.toNat] := by
  obtain ⟨hl, hc, hr⟩ := reads_arr.1 h
  match xs, hl with
  | [y0, y1, y2, y3], _ =>
    match cs, hc with
    | [c0, c1, c2, c3], _ =>
      have h0 : _ = [byteV y0] := reads_byte.1 (hr 0 (show 0 < 4 by decide))
      have h1 : _ = [byteV y1] := reads_byte.1 (hr 1 (show 1 < 4 by decide))
      have h2 : _ = [byteV y2] := reads_byte.1 (hr 2 (show 2 < 4 by decide))
      have h3 : _ = [byteV y3] := reads_byte.1 (hr 3 (show 3 < 4 by decide))
      simp [Ty.size, byteV] at h0 h1 h2 h3
      refine ⟨y0, y1, y2, y3, rfl, ?_⟩
      rw [h0, h1, h2, h3]


set_option maxRecDepth 100000 in
theorem turns_bad (id age sq : Nat) (t a : Int) (ha : age < 4294967296) (hs : sq < 4294967296) (h : ¬ SupOk age sq t) (y0 y1 y2' y3 : UInt8) (w : World) : Calls Try.prog 7 #[.agg #[.int .u32 (id : Int), .int .u32 (age : Int), .int .u32 (sq : Int), .int .i64 t], .int .i64 a, .agg #[.int .u8 (y0.toNat : Int), .int .u8 (y1.toNat : Int), .int .u8 (y2'.toNat : Int), .int .u8 (y3.toNat : Int)]] w fun e w' => e = .returned (.bool true) ∧ Below w.heap.size w w' := by
  have HW := Lib.hid (pwrite_bad id age sq t ha hs h)
  clear ha hs h
  go_enter Try.func7, Try.ntmps7
  go_wp2_with fail
  have A0 := BoxOf.alloc (BoxOf.new w #[.int .u32 (id : Int), .int .u32 (age : Int), .int .u32 (sq : Int), .int .i64 t] 24) (.cells #[.int .u8 (y0.toNat : Int), .int .u8 (y1.toNat : Int), .int .u8 (y2'.toNat : Int), .int .u8 (y3.toNat : Int)] 41)
  have D0 := BoxOf.new' (w.alloc (.cells #[.int .u32 (id : Int), .int .u32 (age : Int), .int .u32 (sq : Int), .int .i64 t] 24)) (w.heap.size + 1) #[.int .u8 (y0.toNat : Int), .int .u8 (y1.toNat : Int), .int .u8 (y2'.toNat : Int), .int .u8 (y3.toNat : Int)] 41 (by simp)
  have t0 := Ext.alloc (Ext.alloc (Below.refl w.heap.size w) (.cells #[.int .u32 (id : Int), .int .u32 (age : Int), .int .u32 (sq : Int), .int .i64 t] 24)) (.cells #[.int .u8 (y0.toNat : Int), .int .u8 (y1.toNat : Int), .int .u8 (y2'.toNat : Int), .int .u8 (y3.toNat : Int)] 41)
  refine (sualive_any _).mono ?_
  rintro e w1 ⟨rfl, b1⟩
  have A1 := A0.next b1
  have D1 := D0.next b1
  have t1 := Ext.trans t0 b1
  have x1 := A1.cell
  clear A0 D0 t0 b1
  go_wp2_with fail
  refine (HW.out _).mono ?_
  rintro e w2 ⟨rfl, b2⟩
  have t2 := Ext.trans t1 b2
  clear A1 D1 t1 x1 b2
  go_wp2
  go_ret
  exact ⟨rfl, t2⟩
set_option maxRecDepth 100000 in
theorem turns_none (id age sq : Nat) (t : Nat) (a : Int) (hi : id < 4294967296) (ha : age < 4294967296) (hs : sq < 4294967296) (h : SupOk age sq (t : Int)) (y0 y1 y2' y3 : UInt8)
    (hb : (y0 = 0 ∧ y1 = 0 ∧ y2' = 0 ∧ y3 = 0) ∨ (¬ (y0 = 0 ∧ y1 = 0 ∧ y2' = 0 ∧ y3 = 0) ∧ a ≠ 124 ∧ (a < 0 ∨ (¬ a < 0 ∧ 120 < a)))) (w : World) : Calls Try.prog 7 #[.agg #[.int .u32 (id : Int), .int .u32 (age : Int), .int .u32 (sq : Int), .int .i64 (t : Int)], .int .i64 a, .agg #[.int .u8 (y0.toNat : Int), .int .u8 (y1.toNat : Int), .int .u8 (y2'.toNat : Int), .int .u8 (y3.toNat : Int)]] w fun e w' => e = .returned (.bool true) ∧ Below w.heap.size w w' := by
  have HW := Lib.hid (pwrite_ok id age sq t hi ha hs h)
  clear hi ha hs h
  have HB := Lib.hid hb
  clear hb
  go_enter Try.func7, Try.ntmps7
  go_wp2_with fail
  have A0 := BoxOf.alloc (BoxOf.new w #[.int .u32 (id : Int), .int .u32 (age : Int), .int .u32 (sq : Int), .int .i64 (t : Int)] 24) (.cells #[.int .u8 (y0.toNat : Int), .int .u8 (y1.toNat : Int), .int .u8 (y2'.toNat : Int), .int .u8 (y3.toNat : Int)] 41)
  have D0 := BoxOf.new' (w.alloc (.cells #[.int .u32 (id : Int), .int .u32 (age : Int), .int .u32 (sq : Int), .int .i64 (t : Int)] 24)) (w.heap.size + 1) #[.int .u8 (y0.toNat : Int), .int .u8 (y1.toNat : Int), .int .u8 (y2'.toNat : Int), .int .u8 (y3.toNat : Int)] 41 (by simp)
  have t0 := Ext.alloc (Ext.alloc (Below.refl w.heap.size w) (.cells #[.int .u32 (id : Int), .int .u32 (age : Int), .int .u32 (sq : Int), .int .i64 (t : Int)] 24)) (.cells #[.int .u8 (y0.toNat : Int), .int .u8 (y1.toNat : Int), .int .u8 (y2'.toNat : Int), .int .u8 (y3.toNat : Int)] 41)
  refine (sualive_any _).mono ?_
  rintro e w1 ⟨rfl, b1⟩
  have A1 := A0.next b1
  have D1 := D0.next b1
  have t1 := Ext.trans t0 b1
  have x1 := A1.cell
  clear A0 D0 t0 b1
  go_wp2_with fail
  refine (HW.out _).mono ?_
  rintro e w2 ⟨g, rfl, hg, hB, b2⟩
  have D2 := D1.next b2
  have t2 := Ext.trans t1 b2
  have y2 := D2.cell
  have heq := eq_nought4 y0 y1 y2' y3 w2
  clear A1 D1 t1 x1 b2 hB hg D2
  rcases HB.out with hy | ⟨hy, h124, hh⟩
  · rw [decide_eq_true hy] at heq
    clear hy
    go_wp2
    go_ret
    exact ⟨rfl, t2⟩
  · rw [decide_eq_false hy] at heq
    clear hy
    have q1 : (a != 124) = true := by simpa using h124
    rcases hh with hh | ⟨hh, hh2⟩
    · have q2 : decide (a < 0) = true := decide_eq_true hh
      go_wp2
      go_ret
      exact ⟨rfl, t2⟩
    · have q2 : decide (a < 0) = false := decide_eq_false (by omega)
      have q3 : decide (120 < a) = true := decide_eq_true hh2
      go_wp2
      go_ret
      exact ⟨rfl, t2⟩

set_option maxRecDepth 100000 in
set_option maxHeartbeats 1000000 in
theorem turns_ok (id age sq : Nat) (t p : Nat) (hi : id < 4294967296) (ha : age < 4294967296) (hs : sq < 4294967296) (h : SupOk age sq (t : Int)) (y0 y1 y2' y3 : UInt8)
    (hy : ¬ (y0 = 0 ∧ y1 = 0 ∧ y2' = 0 ∧ y3 = 0)) (hp : p ≤ 120 ∨ p = 124) (w : World) : Calls Try.prog 7 #[.agg #[.int .u32 (id : Int), .int .u32 (age : Int), .int .u32 (sq : Int), .int .i64 (t : Int)], .int .i64 (p : Int), .agg #[.int .u8 (y0.toNat : Int), .int .u8 (y1.toNat : Int), .int .u8 (y2'.toNat : Int), .int .u8 (y3.toNat : Int)]] w fun e w' => e = .returned (.bool true) ∧ Below w.heap.size w w' := by
  have HW := Lib.hid (pwrite_ok id age sq t hi ha hs h)
  have HU := Lib.hid (turned_unsealed (supBlock id age sq t) y0 y1 y2' y3 p (sealL_sealed _ (supPad_len id age sq t)) hp hy)
  have hlen := supBlock_len id age sq t
  clear hi ha hs h
  go_enter Try.func7, Try.ntmps7
  go_wp2_with fail
  have A0 := BoxOf.alloc (BoxOf.new w #[.int .u32 (id : Int), .int .u32 (age : Int), .int .u32 (sq : Int), .int .i64 (t : Int)] 24) (.cells #[.int .u8 (y0.toNat : Int), .int .u8 (y1.toNat : Int), .int .u8 (y2'.toNat : Int), .int .u8 (y3.toNat : Int)] 41)
  have D0 := BoxOf.new' (w.alloc (.cells #[.int .u32 (id : Int), .int .u32 (age : Int), .int .u32 (sq : Int), .int .i64 (t : Int)] 24)) (w.heap.size + 1) #[.int .u8 (y0.toNat : Int), .int .u8 (y1.toNat : Int), .int .u8 (y2'.toNat : Int), .int .u8 (y3.toNat : Int)] 41 (by simp)
  have t0 := Ext.alloc (Ext.alloc (Below.refl w.heap.size w) (.cells #[.int .u32 (id : Int), .int .u32 (age : Int), .int .u32 (sq : Int), .int .i64 (t : Int)] 24)) (.cells #[.int .u8 (y0.toNat : Int), .int .u8 (y1.toNat : Int), .int .u8 (y2'.toNat : Int), .int .u8 (y3.toNat : Int)] 41)
  refine (sualive_any _).mono ?_
  rintro e w1 ⟨rfl, b1⟩
  have A1 := A0.next b1
  have D1 := D0.next b1
  have t1 := Ext.trans t0 b1
  have x1 := A1.cell
  clear A0 D0 t0 b1
  go_wp2_with fail
  refine (HW.out _).mono ?_
  rintro e w2 ⟨g, rfl, hg, hB, b2⟩
  have D2 := D1.next b2
  have t2 := Ext.trans t1 b2
  have y2 := D2.cell
  have heq := eq_nought4 y0 y1 y2' y3 w2
  rw [decide_eq_false hy] at heq
  have hgg : w.heap.size + 1 < g := Nat.lt_of_lt_of_le D1.lt hg
  have own0 := hB.own
  generalize hL : supBlock id age sq t = bs at *
  clear A1 D1 t1 x1 b2 hB hg hy hL
  have HD := Lib.hid D2
  have HY : Hid (∀ k, k < 4 → w2.cell? ⟨w.heap.size + 1, k, none⟩ = some (.int .u8 (([y0, y1, y2', y3].getD k 0).toNat : Int))) := by
    intro k hk
    rw [y2]
    rcases k with _ | _ | _ | _ | k <;> first | rfl | omega
  clear D2
  have hgl : g < w2.heap.size := own_lt own0 rfl
  have e0 : decide ((p : Int) < 0) = false := decide_eq_false (by omega)
  have hp4 : p + 4 ≤ 128 := by omega
  rcases hp with hp | hp
  · have e1 : ((p : Int) != 124) = true := by rw [bne_iff_ne]; omega
    have e2 : (p != 124) = true := by rw [bne_iff_ne]; omega
    have e3 : decide (120 < (p : Int)) = false := decide_eq_false (by omega)
    have e4 : decide (120 < p) = false := decide_eq_false (by omega)
    go_wp2
    clear e0 e1 e2 e3 e4 heq
    go_loopw [10] (fun i wr => ∃ k : Nat, k ≤ 4 ∧ i = .int .i64 k ∧ wr.ownsRow g 71 1 (.slice (some ⟨g, 0, none⟩) 128 128) 128 ((turned bs [y0, y1, y2', y3] p k).map byteV) ∧ Below g w2 wr) (fun i _ => 4 - (intOf i).toNat)
    case atStart => exact ⟨0, by omega, rfl, own0, Below.refl _ _⟩
    case round =>
      obtain ⟨k, hk, rfl, own, bw⟩ := hrel
      by_cases hk4 : k < 4
      · have hlen' : (turned bs [y0, y1, y2', y3] p k).length = 128 := by rw [turned_length, hlen]
        have cy := (bw.cell (p := ⟨w.heap.size + 1, k, none⟩) (by simpa using hgg)).trans (HY.out k hk4)
        have cz : wr.cell? ⟨g, p + k, none⟩ = some (.int .u8 (((turned bs [y0, y1, y2', y3] p k).getD (p + k) 0).toNat : Int)) := by
          rw [own.cellAt (p + k) (by omega)]
          simp [byteV, show p + k < (turned bs [y0, y1, y2', y3] p k).length by omega]
        have fz := own.frozenAt (p + k)
        have hx := u8_xor_b ((turned bs [y0, y1, y2', y3] p k).getD (p + k) 0) ([y0, y1, y2', y3].getD k 0)
        have st := own.stored (p + k) (byteV ((turned bs [y0, y1, y2', y3] p k).getD (p + k) 0 ^^^ [y0, y1, y2', y3].getD k 0))
        rw [← List.map_set] at st
        have OWN : Hid ((wr.setCell ⟨g, p + k, none⟩ (byteV ((turned bs [y0, y1, y2', y3] p k).getD (p + k) 0 ^^^ [y0, y1, y2', y3].getD k 0))).ownsRow g 71 1 (.slice (some ⟨g, 0, none⟩) 128 128) 128 ((turned bs [y0, y1, y2', y3] p (k + 1)).map byteV)) := st.1
        clear st own own0 y2
        generalize (turned bs [y0, y1, y2', y3] p k).getD (p + k) 0 = b at cz hx OWN
        generalize [y0, y1, y2', y3].getD k 0 = y at cy hx OWN
        generalize b ^^^ y = z at hx OWN
        go_wp2
        go_region
        go_wp2
        go_roundw
        case rel => exact ⟨k + 1, by omega, by go_num, OWN.out.drew, (bw.setCell (Nat.le_refl _) _).drew⟩
        case measure => simp [intOf]; omega
      · have hk' : k = 4 := by omega
        rw [hk'] at own
        have hd := Bs.of_ownS own
        have bt : Below w.heap.size w wr := t2.trans (bw.mono (by omega))
        have HK := Lib.hid hk'
        clear hk' own own0 y2
        rcases read_block _ 128 128 _ (.inr rfl) wr hd with ⟨i1, i2, i3, i4, hr, _⟩ | ⟨_, hc⟩
        · exact absurd (read_sealed hr) HU.out
        · have HC := Lib.hid hc
          clear hc hd
          go_wp2_with fail
          refine HC.out.mono ?_
          rintro e w4 ⟨rfl, b4⟩
          have t5 := Ext.alloc (Ext.trans bt b4) (.cells #[.int .u32 0, .int .u32 0, .int .u32 0, .int .i64 0] 24)
          go_wp2
          go_ret
          exact ⟨rfl, t5⟩
  · have e1 : ((p : Int) != 124) = false := by rw [bne_eq_false_iff_eq]; omega
    have e2 : (p != 124) = false := by rw [bne_eq_false_iff_eq]; omega
    clear hp
    go_wp2
    clear e0 e1 e2 heq
    go_loopw [10] (fun i wr => ∃ k : Nat, k ≤ 4 ∧ i = .int .i64 k ∧ wr.ownsRow g 71 1 (.slice (some ⟨g, 0, none⟩) 128 128) 128 ((turned bs [y0, y1, y2', y3] p k).map byteV) ∧ Below g w2 wr) (fun i _ => 4 - (intOf i).toNat)
    case atStart => exact ⟨0, by omega, rfl, own0, Below.refl _ _⟩
    case round =>
      obtain ⟨k, hk, rfl, own, bw⟩ := hrel
      by_cases hk4 : k < 4
      · have hlen' : (turned bs [y0, y1, y2', y3] p k).length = 128 := by rw [turned_length, hlen]
        have cy := (bw.cell (p := ⟨w.heap.size + 1, k, none⟩) (by simpa using hgg)).trans (HY.out k hk4)
        have cz : wr.cell? ⟨g, p + k, none⟩ = some (.int .u8 (((turned bs [y0, y1, y2', y3] p k).getD (p + k) 0).toNat : Int)) := by
          rw [own.cellAt (p + k) (by omega)]
          simp [byteV, show p + k < (turned bs [y0, y1, y2', y3] p k).length by omega]
        have fz := own.frozenAt (p + k)
        have hx := u8_xor_b ((turned bs [y0, y1, y2', y3] p k).getD (p + k) 0) ([y0, y1, y2', y3].getD k 0)
        have st := own.stored (p + k) (byteV ((turned bs [y0, y1, y2', y3] p k).getD (p + k) 0 ^^^ [y0, y1, y2', y3].getD k 0))
        rw [← List.map_set] at st
        have OWN : Hid ((wr.setCell ⟨g, p + k, none⟩ (byteV ((turned bs [y0, y1, y2', y3] p k).getD (p + k) 0 ^^^ [y0, y1, y2', y3].getD k 0))).ownsRow g 71 1 (.slice (some ⟨g, 0, none⟩) 128 128) 128 ((turned bs [y0, y1, y2', y3] p (k + 1)).map byteV)) := st.1
        clear st own own0 y2
        generalize (turned bs [y0, y1, y2', y3] p k).getD (p + k) 0 = b at cz hx OWN
        generalize [y0, y1, y2', y3].getD k 0 = y at cy hx OWN
        generalize b ^^^ y = z at hx OWN
        go_wp2
        go_region
        go_wp2
        go_roundw
        case rel => exact ⟨k + 1, by omega, by go_num, OWN.out.drew, (bw.setCell (Nat.le_refl _) _).drew⟩
        case measure => simp [intOf]; omega
      · have hk' : k = 4 := by omega
        rw [hk'] at own
        have hd := Bs.of_ownS own
        have bt : Below w.heap.size w wr := t2.trans (bw.mono (by omega))
        have HK := Lib.hid hk'
        clear hk' own own0 y2
        rcases read_block _ 128 128 _ (.inr rfl) wr hd with ⟨i1, i2, i3, i4, hr, _⟩ | ⟨_, hc⟩
        · exact absurd (read_sealed hr) HU.out
        · have HC := Lib.hid hc
          clear hc hd
          go_wp2_with fail
          refine HC.out.mono ?_
          rintro e w4 ⟨rfl, b4⟩
          have t5 := Ext.alloc (Ext.trans bt b4) (.cells #[.int .u32 0, .int .u32 0, .int .u32 0, .int .i64 0] 24)
          go_wp2
          go_ret
          exact ⟨rfl, t5⟩

theorem turns_all (id age sq : Nat) (t a : Int) (hi : id < 4294967296) (ha : age < 4294967296) (hs : sq < 4294967296) (y0 y1 y2' y3 : UInt8) (w : World) : Calls Try.prog 7 #[.agg #[.int .u32 (id : Int), .int .u32 (age : Int), .int .u32 (sq : Int), .int .i64 t], .int .i64 a, .agg #[.int .u8 (y0.toNat : Int), .int .u8 (y1.toNat : Int), .int .u8 (y2'.toNat : Int), .int .u8 (y3.toNat : Int)]] w fun e w' => e = .returned (.bool true) ∧ Below w.heap.size w w' := by
  by_cases hok : SupOk age sq t
  · obtain ⟨t, rfl⟩ : ∃ n : Nat, t = (n : Int) := ⟨t.toNat, by have := hok.2.2.1; omega⟩
    by_cases hy : y0 = 0 ∧ y1 = 0 ∧ y2' = 0 ∧ y3 = 0
    · exact turns_none id age sq t a hi ha hs hok y0 y1 y2' y3 (.inl hy) w
    · by_cases hp : a ≠ 124 ∧ (a < 0 ∨ 120 < a)
      · exact turns_none id age sq t a hi ha hs hok y0 y1 y2' y3 (.inr ⟨hy, hp.1, by omega⟩) w
      · obtain ⟨p, rfl⟩ : ∃ n : Nat, a = (n : Int) := ⟨a.toNat, by omega⟩
        exact turns_ok id age sq t p hi ha hs hok y0 y1 y2' y3 hy (by omega) w
  · exact turns_bad id age sq t a ha hs hok y0 y1 y2' y3 w

theorem superTurns_walk (w : World) (cs : List Value) (y : (Ty.st (.prod .u32 (.prod .u32 (.prod .u32 (.prod .int .unit))))).T) (h0 : Reads w (Ty.st (.prod .u32 (.prod .u32 (.prod .u32 (.prod .int .unit))))) y cs) (v1 : Value) (a : Ty.int.T) (h1 : Reads w .int a [v1]) (ds : List Value) (ys : (Ty.arr 4 .byte).T) (h2 : Reads w (.arr 4 .byte) ys ds) :
    Calls Try.prog 7 #[.agg cs.toArray, v1, .agg ds.toArray] w fun e w' => e = .returned (.bool true) ∧ Below w.heap.size w w' := by
  obtain ⟨id, age, sq, t, hv, hi, ha, hs, _⟩ := sup_open h0
  obtain ⟨rfl, _⟩ := one_int h1
  obtain ⟨y0, y1, y2', y3, _, hc⟩ := arr4_open h2
  rw [hv, hc]
  exact turns_all id age sq t a hi ha hs y0 y1 y2' y3 w
end Go.Proofs.Ytgmlhfencidahaa
