/- Layer 8 (split): all blocks, each once: two requests that may be. -/
import Derived.Test.YtmoaflnggcbhkaaSplitAll
namespace Go.Proofs.Ytmoaflnggcbhkaa
open Go.RowKit
set_option linter.unusedSimpArgs false
set_option linter.unusedVariables false

/-- has one of the first j blocks of one request, and one of the first p behind it, been met? -/
def metB (a1 a2 : Int) (y2 j p : Nat) : Bool := decide (0 < (j : Int) ∧ 0 < (y2 : Int) ∧ a1 < a2 + (y2 : Int) ∧ a2 < a1 + (j : Int)) || decide (0 < (p : Int) ∧ a2 ≤ a1 + (j : Int) ∧ a1 + (j : Int) < a2 + (p : Int))
theorem metB_start (a1 a2 : Int) (y2 : Nat) : metB a1 a2 y2 0 0 = false := by simp [metB]
theorem metB_hit {a1 a2 : Int} {y2 j p : Nat} (h : metB a1 a2 y2 j p = true) : metB a1 a2 y2 j (p + 1) = true := by
  unfold metB at *
  simp only [Bool.or_eq_true, decide_eq_true_eq] at *
  omega
theorem metB_eq {a1 a2 : Int} {y2 j p : Nat} (h : metB a1 a2 y2 j p = false) : metB a1 a2 y2 j (p + 1) = (a1 + (j : Int) == a2 + (p : Int)) := by
  unfold metB at *
  simp only [Bool.or_eq_false_iff, decide_eq_false_iff_not] at h
  rw [Bool.eq_iff_iff]
  simp only [Bool.or_eq_true, decide_eq_true_eq, beq_iff_eq]
  omega
theorem metB_next (a1 a2 : Int) (y2 j : Nat) : metB a1 a2 y2 j y2 = metB a1 a2 y2 (j + 1) 0 := by
  unfold metB
  rw [Bool.eq_iff_iff]
  simp only [Bool.or_eq_true, decide_eq_true_eq]
  omega

set_option maxRecDepth 100000 in
set_option maxHeartbeats 2000000 in
theorem all_ok (x : Cfg) (hx : x.Ok) (k1 a1 : Int) (y1 : Nat) (k2 a2 : Int) (y2 : Nat) (A1 A2 : Option Addr) (n1 q1 n2 q2 : Nat) (hn1 : (n1 : Int) ≤ 5000) (hn2 : (n2 : Int) ≤ 5000) (hy1 : y1 ≤ 8) (hy2 : y2 ≤ 8)
    (hb1 : 0 ≤ a1 ∧ a1 + (y1 : Int) ≤ x.c * x.r * (x.m - 1)) (hb2 : 0 ≤ a2 ∧ a2 ≤ 1000) (w1 w2 t : Bool)
    (k1' : ∀ W, Calls Try.prog 14 #[x.val, .agg #[.int .u8 k1, .int .i64 a1, .int .i64 y1, .slice A1 n1 q1]] W fun e w' => ∃ v, e = .returned (.tuple #[v, .int .i64 0]) ∧ w'.ownsRow (W.heap.size + 2) 3 1 v y1 (seqI a1 y1) ∧ Below W.heap.size W w') (k2' : ∀ W, Calls Try.prog 14 #[x.val, .agg #[.int .u8 k2, .int .i64 a2, .int .i64 y2, .slice A2 n2 q2]] W fun e w' => ∃ v, e = .returned (.tuple #[v, .int .i64 0]) ∧ w'.ownsRow (W.heap.size + 2) 3 1 v y2 (seqI a2 y2) ∧ Below W.heap.size W w')
    (k3' : ∀ W, Calls Try.prog 15 #[x.val, .agg #[.int .u8 k1, .int .i64 a1, .int .i64 y1, .slice A1 n1 q1], .agg #[.int .u8 k2, .int .i64 a2, .int .i64 y2, .slice A2 n2 q2]] W fun e w' => e = .returned (.tuple #[.bool t, .int .i64 0]) ∧ Below W.heap.size W w')
    (k6' : ∀ W, Calls Try.prog 21 #[.int .u8 k1] W fun e w' => e = .returned (.bool w1) ∧ W = w')
    (k7' : ∀ W, Calls Try.prog 21 #[.int .u8 k2] W fun e w' => e = .returned (.bool w2) ∧ W = w')
    (ht : t = (metB a1 a2 y2 y1 0 && (w1 || w2))) (w : World) : Calls Try.prog 7 #[x.val, .agg #[.int .u8 k1, .int .i64 a1, .int .i64 y1, .slice A1 n1 q1], .agg #[.int .u8 k2, .int .i64 a2, .int .i64 y2, .slice A2 n2 q2]] w fun e w' => e = .returned (.bool true) ∧ Below w.heap.size w w' := by
  have K0 := Lib.hid (blocks_ok x hx)
  have hcr := Cfg.crm hx
  have K1 := Lib.hid k1'
  have K2 := Lib.hid k2'
  have K3 := Lib.hid k3'
  have K6 := Lib.hid k6'
  have K7 := Lib.hid k7'
  have HT := Lib.hid ht
  clear k1' k2' k3' k6' k7' ht hx
  obtain ⟨id, m, c, r, l, h⟩ := x
  unfold Cfg.val at *
  dsimp only at *
  generalize c * r * (m - 1) = nb at *
  obtain ⟨hn3, hn4⟩ := hcr
  obtain ⟨hb11, hb12⟩ := hb1
  obtain ⟨hb21, hb22⟩ := hb2
  go_enter Try.func7, Try.ntmps7
  go_wp2_with fail
  have C0 := BoxOf.alloc (BoxOf.alloc (BoxOf.new w #[.int .u32 (id : Int), .int .i64 m, .int .i64 c, .int .i64 r, .int .i64 l, .int .i64 h] 24) (.cells #[.int .u8 k1, .int .i64 a1, .int .i64 y1, .slice A1 n1 q1] 32)) (.cells #[.int .u8 k2, .int .i64 a2, .int .i64 y2, .slice A2 n2 q2] 32)
  have A0 := BoxOf.alloc (BoxOf.new' (w.alloc (.cells #[.int .u32 (id : Int), .int .i64 m, .int .i64 c, .int .i64 r, .int .i64 l, .int .i64 h] 24)) (w.heap.size + 1) #[.int .u8 k1, .int .i64 a1, .int .i64 y1, .slice A1 n1 q1] 32 (by simp)) (.cells #[.int .u8 k2, .int .i64 a2, .int .i64 y2, .slice A2 n2 q2] 32)
  have D0 := BoxOf.new' ((w.alloc (.cells #[.int .u32 (id : Int), .int .i64 m, .int .i64 c, .int .i64 r, .int .i64 l, .int .i64 h] 24)).alloc (.cells #[.int .u8 k1, .int .i64 a1, .int .i64 y1, .slice A1 n1 q1] 32)) (w.heap.size + 2) #[.int .u8 k2, .int .i64 a2, .int .i64 y2, .slice A2 n2 q2] 32 (by simp)
  have t0 := Ext.alloc (Ext.alloc (Ext.alloc (Below.refl w.heap.size w) (.cells #[.int .u32 (id : Int), .int .i64 m, .int .i64 c, .int .i64 r, .int .i64 l, .int .i64 h] 24)) (.cells #[.int .u8 k1, .int .i64 a1, .int .i64 y1, .slice A1 n1 q1] 32)) (.cells #[.int .u8 k2, .int .i64 a2, .int .i64 y2, .slice A2 n2 q2] 32)
  have xc0 := C0.cell
  refine (spalive_any _).mono ?_
  rintro e w1' ⟨rfl, b1⟩
  have C1 := C0.next b1
  have A1 := A0.next b1
  have D1 := D0.next b1
  have t1 := Ext.trans t0 b1
  clear xc0
  have xc1 := C1.cell
  have ya1 := A1.cell
  have zd1 := D1.cell
  clear C0 A0 D0 t0
  clear b1
  go_wp2_with fail
  refine (K1.out _).mono ?_
  rintro e w2' ⟨v1, rfl, o1, b2⟩
  obtain ⟨P1, c1, rfl, _, r1⟩ := own_rd o1
  have C2 := C1.next b2
  have A2 := A1.next b2
  have D2 := D1.next b2
  have t2 := Ext.trans t1 b2
  clear xc1
  have xc2 := C2.cell
  have ya2 := A2.cell
  have zd2 := D2.cell
  clear C1 A1 D1 t1
  clear b2 o1 ya1 zd1
  go_wp2_with fail
  refine (K2.out _).mono ?_
  rintro e w3' ⟨v2, rfl, o2, b3⟩
  obtain ⟨P2, c2, rfl, _, r2⟩ := own_rd o2
  have r1 := r1.below b3
  have C3 := C2.next b3
  have A3 := A2.next b3
  have D3 := D2.next b3
  have t3 := Ext.trans t2 b3
  clear xc2
  have xc3 := C3.cell
  have ya3 := A3.cell
  have zd3 := D3.cell
  clear C2 A2 D2 t2
  clear b3 o2 ya2 zd2
  go_wp2_with fail
  refine (K3.out _).mono ?_
  rintro e w4' ⟨rfl, b4⟩
  have r1 := r1.below b4
  have r2 := r2.below b4
  have C4 := C3.next b4
  have A4 := A3.next b4
  have D4 := D3.next b4
  have t4 := Ext.trans t3 b4
  clear xc3
  have xc4 := C4.cell
  have ya4 := A4.cell
  have zd4 := D4.cell
  clear C3 A3 D3 t3
  clear b4 ya3 zd3
  go_wp2_with fail
  refine (K0.out _).mono ?_
  rintro e w5' ⟨rfl, b5⟩
  have r1 := r1.below b5
  have r2 := r2.below b5
  have C5 := C4.next b5
  have A5 := A4.next b5
  have D5 := D4.next b5
  have t5 := Ext.trans t4 b5
  clear xc4
  have xc5 := C5.cell
  have ya5 := A5.cell
  have zd5 := D5.cell
  clear C4 A4 D4 t4
  clear b5 ya4 zd4
  have r1 := rd_seq r1
  have r2 := rd_seq r2
  have r1 : y1 ≤ 0 ∨ _ := r1.imp (fun h => Nat.le_of_eq h) (fun h => h)
  have r2 : y2 ≤ 0 ∨ _ := r2.imp (fun h => Nat.le_of_eq h) (fun h => h)
  clear xc5
  go_wp2
  clear zd5
  rcases r1 with hz1 | ⟨bb1, oo1, rfl, hc1⟩ <;> rcases r2 with hz2 | ⟨bb2, oo2, rfl, hc2⟩
  · go_loopw [16, 17, 18] (fun b i _ wr => ∃ j : Nat, j ≤ y1 ∧ i = .int .i64 j ∧ b = .bool (metB a1 a2 y2 j 0) ∧ Below w5'.heap.size w5' wr) (fun _ i _ _ => y1 - (intOf i).toNat)
    case atStart => exact ⟨0, Nat.zero_le _, rfl, by rw [metB_start], Below.refl _ _⟩
    case round =>
      obtain ⟨j, hj, rfl, rfl, bj⟩ := hrel
      have Aj := A5.next bj
      have yj := Aj.cell
      have zj := (D5.next bj).cell
      by_cases hlt : j < y1
      · exact absurd hlt (by omega)
      · have hje : j = y1 := by omega
        have HJE := Lib.hid hje
        have ht := HT.out
        have t7 := t5.trans (bj.mono t5.size)
        rw [← hje] at ht
        clear hje
        generalize metB a1 a2 y2 j 0 = bt at *
        cases bt with
        | false =>
          rw [Bool.false_and] at ht
          subst ht
          go_wp2
          go_ret
          exact ⟨rfl, t7⟩
        | true =>
          cases w1 with
          | true =>
            rw [Bool.true_or, Bool.true_and] at ht
            subst ht
            go_wp2_with fail
            refine (K6.out _).mono ?_
            rintro e w8 ⟨rfl, rfl⟩
            go_wp2
            go_ret
            exact ⟨rfl, t7⟩
          | false =>
            rw [Bool.false_or, Bool.true_and] at ht
            subst ht
            go_wp2_with fail
            refine (K6.out _).mono ?_
            rintro e w8 ⟨rfl, rfl⟩
            go_wp2_with fail
            refine (K7.out _).mono ?_
            rintro e w8 ⟨rfl, rfl⟩
            go_wp2
            go_ret
            exact ⟨rfl, t7⟩
  · go_loopw [16, 17, 18] (fun b i _ wr => ∃ j : Nat, j ≤ y1 ∧ i = .int .i64 j ∧ b = .bool (metB a1 a2 y2 j 0) ∧ Below w5'.heap.size w5' wr) (fun _ i _ _ => y1 - (intOf i).toNat)
    case atStart => exact ⟨0, Nat.zero_le _, rfl, by rw [metB_start], Below.refl _ _⟩
    case round =>
      obtain ⟨j, hj, rfl, rfl, bj⟩ := hrel
      have Aj := A5.next bj
      have yj := Aj.cell
      have zj := (D5.next bj).cell
      by_cases hlt : j < y1
      · exact absurd hlt (by omega)
      · have hje : j = y1 := by omega
        have HJE := Lib.hid hje
        have ht := HT.out
        have t7 := t5.trans (bj.mono t5.size)
        rw [← hje] at ht
        clear hje
        generalize metB a1 a2 y2 j 0 = bt at *
        cases bt with
        | false =>
          rw [Bool.false_and] at ht
          subst ht
          go_wp2
          go_ret
          exact ⟨rfl, t7⟩
        | true =>
          cases w1 with
          | true =>
            rw [Bool.true_or, Bool.true_and] at ht
            subst ht
            go_wp2_with fail
            refine (K6.out _).mono ?_
            rintro e w8 ⟨rfl, rfl⟩
            go_wp2
            go_ret
            exact ⟨rfl, t7⟩
          | false =>
            rw [Bool.false_or, Bool.true_and] at ht
            subst ht
            go_wp2_with fail
            refine (K6.out _).mono ?_
            rintro e w8 ⟨rfl, rfl⟩
            go_wp2_with fail
            refine (K7.out _).mono ?_
            rintro e w8 ⟨rfl, rfl⟩
            go_wp2
            go_ret
            exact ⟨rfl, t7⟩
  · go_loopw [16, 17, 18] (fun b i _ wr => ∃ j : Nat, j ≤ y1 ∧ i = .int .i64 j ∧ b = .bool (metB a1 a2 y2 j 0) ∧ Below w5'.heap.size w5' wr) (fun _ i _ _ => y1 - (intOf i).toNat)
    case atStart => exact ⟨0, Nat.zero_le _, rfl, by rw [metB_start], Below.refl _ _⟩
    case round =>
      obtain ⟨j, hj, rfl, rfl, bj⟩ := hrel
      have Aj := A5.next bj
      have yj := Aj.cell
      have zj := (D5.next bj).cell
      by_cases hlt : j < y1
      · have hcc := hc1 j hlt
        have qj := (bj.cell (p := ⟨bb1, oo1 + j, none⟩) (block_lt_of_cell hcc)).trans hcc
        have hji : (j : Int) < (y1 : Int) := by omega
        have hj0 : 0 ≤ (j : Int) := by omega
        have g1 : IntKind.i64.wrap (a1 + (j : Int)) = a1 + (j : Int) := i64_fit (by omega)
        have g2 : decide (a1 + (j : Int) < 0) = false := decide_eq_false (by omega)
        have g3 : decide (nb ≤ a1 + (j : Int)) = false := decide_eq_false (by omega)
        clear hcc zj
        obtain ⟨wo, rfl⟩ : ∃ wo : World, wo = wr := ⟨_, rfl⟩
        go_wp2_with fail
        go_quiet (fail)
        have bq := below_drewN' bj nq
        generalize wo.drewN nq = wq at bq ⊢
        clear g1 g2 g3 qj yj Aj bj
        go_wp2
        go_loopw [16, 18] (fun b k wr2 => ∃ p : Nat, p ≤ y2 ∧ k = .int .i64 p ∧ b = .bool (metB a1 a2 y2 j p) ∧ Below w5'.heap.size w5' wr2) (fun _ k _ => y2 - (intOf k).toNat)
        case atStart => exact ⟨0, Nat.zero_le _, rfl, rfl, bq⟩
        case round =>
          obtain ⟨p, hp, rfl, rfl, bp⟩ := hrel
          by_cases hlt2 : p < y2
          · exact absurd hlt2 (by omega)
          · have hpe : p = y2 := by omega
            have HPE := Lib.hid hpe
            clear hpe
            go_wp2
            go_roundw
            case rel => exact ⟨j + 1, by omega, by go_num, by rw [HPE.out, metB_next], bp⟩
            case measure => simp [intOf]; omega
      · have hje : j = y1 := by omega
        have HJE := Lib.hid hje
        have ht := HT.out
        have t7 := t5.trans (bj.mono t5.size)
        rw [← hje] at ht
        clear hje
        generalize metB a1 a2 y2 j 0 = bt at *
        cases bt with
        | false =>
          rw [Bool.false_and] at ht
          subst ht
          go_wp2
          go_ret
          exact ⟨rfl, t7⟩
        | true =>
          cases w1 with
          | true =>
            rw [Bool.true_or, Bool.true_and] at ht
            subst ht
            go_wp2_with fail
            refine (K6.out _).mono ?_
            rintro e w8 ⟨rfl, rfl⟩
            go_wp2
            go_ret
            exact ⟨rfl, t7⟩
          | false =>
            rw [Bool.false_or, Bool.true_and] at ht
            subst ht
            go_wp2_with fail
            refine (K6.out _).mono ?_
            rintro e w8 ⟨rfl, rfl⟩
            go_wp2_with fail
            refine (K7.out _).mono ?_
            rintro e w8 ⟨rfl, rfl⟩
            go_wp2
            go_ret
            exact ⟨rfl, t7⟩
  · go_loopw [16, 17, 18] (fun b i _ wr => ∃ j : Nat, j ≤ y1 ∧ i = .int .i64 j ∧ b = .bool (metB a1 a2 y2 j 0) ∧ Below w5'.heap.size w5' wr) (fun _ i _ _ => y1 - (intOf i).toNat)
    case atStart => exact ⟨0, Nat.zero_le _, rfl, by rw [metB_start], Below.refl _ _⟩
    case round =>
      obtain ⟨j, hj, rfl, rfl, bj⟩ := hrel
      have Aj := A5.next bj
      have yj := Aj.cell
      have zj := (D5.next bj).cell
      by_cases hlt : j < y1
      · have hcc := hc1 j hlt
        have qj := (bj.cell (p := ⟨bb1, oo1 + j, none⟩) (block_lt_of_cell hcc)).trans hcc
        have hji : (j : Int) < (y1 : Int) := by omega
        have hj0 : 0 ≤ (j : Int) := by omega
        have g1 : IntKind.i64.wrap (a1 + (j : Int)) = a1 + (j : Int) := i64_fit (by omega)
        have g2 : decide (a1 + (j : Int) < 0) = false := decide_eq_false (by omega)
        have g3 : decide (nb ≤ a1 + (j : Int)) = false := decide_eq_false (by omega)
        clear hcc zj
        obtain ⟨wo, rfl⟩ : ∃ wo : World, wo = wr := ⟨_, rfl⟩
        go_wp2_with fail
        go_quiet (fail)
        have bq := below_drewN' bj nq
        generalize wo.drewN nq = wq at bq ⊢
        clear g1 g2 g3 qj yj Aj bj
        go_wp2
        go_loopw [16, 18] (fun b k wr2 => ∃ p : Nat, p ≤ y2 ∧ k = .int .i64 p ∧ b = .bool (metB a1 a2 y2 j p) ∧ Below w5'.heap.size w5' wr2) (fun _ k _ => y2 - (intOf k).toNat)
        case atStart => exact ⟨0, Nat.zero_le _, rfl, rfl, bq⟩
        case round =>
          obtain ⟨p, hp, rfl, rfl, bp⟩ := hrel
          by_cases hlt2 : p < y2
          · have hcc := hc1 j hlt
            have qj := (bp.cell (p := ⟨bb1, oo1 + j, none⟩) (block_lt_of_cell hcc)).trans hcc
            have hcc2 := hc2 p hlt2
            have qp := (bp.cell (p := ⟨bb2, oo2 + p, none⟩) (block_lt_of_cell hcc2)).trans hcc2
            have hpi : (p : Int) < (y2 : Int) := by omega
            have hp0 : 0 ≤ (p : Int) := by omega
            clear hcc hcc2
            cases hm : metB a1 a2 y2 j p with
            | true =>
              have HM := Lib.hid (metB_hit hm)
              clear hm
              go_wp2_with fail
              go_quiet (fail)
              have bq2 := below_drewN' bp nq
              clear qj qp
              go_wp2
              go_roundw
              case rel => exact ⟨p + 1, by omega, by go_num, by rw [HM.out], bq2⟩
              case measure => simp [intOf]; omega
            | false =>
              have HM := Lib.hid (metB_eq hm)
              clear hm
              go_wp2_with fail
              go_quiet (fail)
              have bq2 := below_drewN' bp nq
              clear qj qp
              go_wp2
              go_roundw
              case rel => exact ⟨p + 1, by omega, by go_num, by rw [HM.out], bq2⟩
              case measure => simp [intOf]; omega
          · have hpe : p = y2 := by omega
            have HPE := Lib.hid hpe
            clear hpe
            go_wp2
            go_roundw
            case rel => exact ⟨j + 1, by omega, by go_num, by rw [HPE.out, metB_next], bp⟩
            case measure => simp [intOf]; omega
      · have hje : j = y1 := by omega
        have HJE := Lib.hid hje
        have ht := HT.out
        have t7 := t5.trans (bj.mono t5.size)
        rw [← hje] at ht
        clear hje
        generalize metB a1 a2 y2 j 0 = bt at *
        cases bt with
        | false =>
          rw [Bool.false_and] at ht
          subst ht
          go_wp2
          go_ret
          exact ⟨rfl, t7⟩
        | true =>
          cases w1 with
          | true =>
            rw [Bool.true_or, Bool.true_and] at ht
            subst ht
            go_wp2_with fail
            refine (K6.out _).mono ?_
            rintro e w8 ⟨rfl, rfl⟩
            go_wp2
            go_ret
            exact ⟨rfl, t7⟩
          | false =>
            rw [Bool.false_or, Bool.true_and] at ht
            subst ht
            go_wp2_with fail
            refine (K6.out _).mono ?_
            rintro e w8 ⟨rfl, rfl⟩
            go_wp2_with fail
            refine (K7.out _).mono ?_
            rintro e w8 ⟨rfl, rfl⟩
            go_wp2
            go_ret
            exact ⟨rfl, t7⟩

theorem splitAll_walk (w : World) (cs : List Value) (y : (Ty.st (.prod .u32 (.prod .int (.prod .int (.prod .int (.prod .int (.prod .int .unit))))))).T) (h0 : Reads w (Ty.st (.prod .u32 (.prod .int (.prod .int (.prod .int (.prod .int (.prod .int .unit))))))) y cs) (ds : List Value) (z : (Ty.st (.prod .byte (.prod .int (.prod .int (.prod (.sl .byte) .unit))))).T) (h1 : Reads w (Ty.st (.prod .byte (.prod .int (.prod .int (.prod (.sl .byte) .unit))))) z ds) (es : List Value) (u : (Ty.st (.prod .byte (.prod .int (.prod .int (.prod (.sl .byte) .unit))))).T) (h2 : Reads w (Ty.st (.prod .byte (.prod .int (.prod .int (.prod (.sl .byte) .unit))))) u es) :
    Calls Try.prog 7 #[.agg cs.toArray, .agg ds.toArray, .agg es.toArray] w fun e w' => e = .returned (.bool true) ∧ Below w.heap.size w w' := by
  obtain ⟨x, hx, _⟩ := cfg_open h0
  obtain ⟨k1, a1, y1, A1, bs1, q1, hv1, _, _, _, _, _, _⟩ := ask_open h1
  obtain ⟨k2, a2, y2, A2, bs2, q2, hv2, _, _, _, _, _, _⟩ := ask_open h2
  rw [hx, hv1, hv2]
  generalize bs1.length = n1
  generalize bs2.length = n2
  rcases (show (5000 < (n1 : Int) ∨ ((n1 : Int) ≤ 5000 ∧ 5000 < (n2 : Int))) ∨ ((n1 : Int) ≤ 5000 ∧ (n2 : Int) ≤ 5000) by omega) with h | ⟨hn1, hn2⟩
  · exact all_long x k1 a1 y1 k2 a2 y2 A1 A2 n1 q1 n2 q2 h w
  · have c1 := scheck_all x k1 a1 y1 A1 n1 q1
    have c2 := scheck_all x k2 a2 y2 A2 n2 q2
    by_cases e1 : askCode x k1 a1 y1 n1 = 0
    · obtain ⟨hok, hp1, hw1, hy1, ha1, _⟩ := askCode_0 e1
      rw [e1] at c1
      have r1 := sblocks_ok x k1 a1 y1 A1 n1 q1 hy1 ha1 c1
      by_cases e2 : askCode x k2 a2 y2 n2 = 0
      · obtain ⟨_, hp2, hw2, hy2, ha2, _⟩ := askCode_0 e2
        rw [e2] at c2
        have r2 := sblocks_ok x k2 a2 y2 A2 n2 q2 hy2 ha2 c2
        have r3 := touch_all x k1 a1 y1 k2 a2 y2 A1 A2 n1 q1 n2 q2 e1 e2
        have hcr := Cfg.crm hok
        have hb1 : a1 + y1 ≤ x.c * x.r * (x.m - 1) := by unfold Placed at hp1; omega
        obtain ⟨m1, rfl⟩ : ∃ n : Nat, y1 = (n : Int) := ⟨y1.toNat, by omega⟩
        obtain ⟨m2, rfl⟩ : ∃ n : Nat, y2 = (n : Int) := ⟨y2.toNat, by omega⟩
        refine all_ok x hok k1 a1 m1 k2 a2 m2 A1 A2 n1 q1 n2 q2 hn1 hn2 (by omega) (by omega) ⟨ha1.1, hb1⟩ ha2 _ _ _ r1 r2 r3 (lwrites_any k1) (lwrites_any k2) ?_ w
        unfold touchB metB
        rw [Bool.and_comm]
        congr 1
        rw [Bool.eq_iff_iff]
        simp only [Bool.or_eq_true, decide_eq_true_eq]
        omega
      · exact all_no2 x k1 a1 y1 k2 a2 y2 A1 A2 n1 q1 n2 q2 hn1 hn2 _ (askCode_ne _ _ _ _ _ e2) (by simpa using e2) y1.toNat r1 (sblocks_err x k2 a2 y2 A2 n2 q2 _ (askCode_ne _ _ _ _ _ e2) c2) (touch_no2 x k1 a1 y1 k2 a2 y2 A1 A2 n1 q1 n2 q2 e1 e2) w
    · refine all_no1a x k1 a1 y1 k2 a2 y2 A1 A2 n1 q1 n2 q2 hn1 hn2 _ (askCode_ne _ _ _ _ _ e1) (sblocks_err x k1 a1 y1 A1 n1 q1 _ (askCode_ne _ _ _ _ _ e1) c1) ?_ (touch_no1 x k1 a1 y1 k2 a2 y2 A1 A2 n1 q1 n2 q2 e1) w
      intro W
      by_cases e2 : askCode x k2 a2 y2 n2 = 0
      · obtain ⟨_, _, _, hy2, ha2, _⟩ := askCode_0 e2
        rw [e2] at c2
        exact (sblocks_ok x k2 a2 y2 A2 n2 q2 hy2 ha2 c2 W).mono fun e w' ⟨v, h1, h2, h3⟩ => ⟨v, 0, h1, h3⟩
      · exact (sblocks_err x k2 a2 y2 A2 n2 q2 _ (askCode_ne _ _ _ _ _ e2) c2 W).mono fun e w' ⟨h1, h3⟩ => ⟨_, _, h1, h3⟩
end Go.Proofs.Ytmoaflnggcbhkaa
