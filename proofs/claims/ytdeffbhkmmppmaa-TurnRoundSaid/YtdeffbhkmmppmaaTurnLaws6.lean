/- Layer 7 (turn): chunks go round the members, and so does the parity: the statements. -/
import Derived.Test.YtdeffbhkmmppmaaTurnLaws5
namespace Go.Proofs.Ytdeffbhkmmppmaa
open Go.RowKit
set_option linter.unusedSimpArgs false

theorem turnWalks_walk (w : World) (cs : List Value) (y : (Ty.st (.prod .u32 (.prod .int (.prod .int (.prod .int (.prod .int (.prod .int .unit))))))).T) (h0 : Reads w (Ty.st (.prod .u32 (.prod .int (.prod .int (.prod .int (.prod .int (.prod .int .unit))))))) y cs) (v1 : Value) (b : Ty.int.T) (h1 : Reads w .int b [v1]) :
    Calls Try.prog 3 #[.agg cs.toArray, v1] w fun e w' => e = .returned (.bool true) ∧ Below w.heap.size w w' := by
  obtain ⟨x, hx, _⟩ := cfg_open h0
  rw [hx]
  clear hx h0 y
  obtain ⟨rfl, _⟩ := one_int h1
  clear h1
  revert b
  show ∀ b : Int, _
  rintro b -
  by_cases hx : x.Ok
  · obtain ⟨hm1, hm2, hc1, hc2, hr1, hr2⟩ := Cfg.four hx
    have hcrm := Cfg.crm hx
    have hcr := Cfg.cr hx
    rcases (show (b < 0 ∨ (0 ≤ b ∧ x.c * x.r * (x.m - 1) ≤ b)) ∨ (0 ≤ b ∧ b < x.c * x.r * (x.m - 1)) by omega) with h | h
    · exact walks_no x b 2 n2 (spot_arg x hx b h) w
    · have hmc : 3 ≤ x.m ∧ x.m ≤ 16 ∧ 1 ≤ x.c ∧ x.c ≤ 8 := ⟨hm1, hm2, hc1, hc2⟩
      obtain ⟨p1, p2, p3, p4, p5⟩ := spot_in hc1 hm1 h
      have hrow := row_lt hc1 p1
      rw [p3] at hrow
      have hv := member_chunk (m := x.m) (q := b / x.c) ⟨hm1, hm2⟩ ⟨hrow.1, by omega⟩
      have k1 := fun W => spot_ok x hx b h W
      rw [hv] at k1
      have hv1 : 0 ≤ b / x.c % x.m ∧ b / x.c % x.m < x.m := ⟨Int.emod_nonneg _ (by omega), Int.emod_lt_of_pos _ (by omega)⟩
      by_cases hl : b + 1 = x.c * x.r * (x.m - 1)
      · exact walks_last x b _ _ _ hmc ⟨h.1, by omega⟩ ⟨p1.1, by omega⟩ hv1 rfl p4 k1 (spot_arg x hx (b + 1) (.inr ⟨by omega, by omega⟩)) (by rw [hl]; exact blocks_ok x hx) w
      · have h' : 0 ≤ b + 1 ∧ b + 1 < x.c * x.r * (x.m - 1) := by omega
        obtain ⟨p1', p2', p3', p4', p5'⟩ := spot_in hc1 hm1 h'
        have hrow' := row_lt hc1 p1'
        rw [p3'] at hrow'
        have hv' := member_chunk (m := x.m) (q := (b + 1) / x.c) ⟨hm1, hm2⟩ ⟨hrow'.1, by omega⟩
        have k2 := fun W => spot_ok x hx (b + 1) h' W
        rw [hv'] at k2
        obtain ⟨n1, n2⟩ := next_div (b := b) hc1
        by_cases hz : (b + 1) % x.c = 0
        · exact walks_turn x b _ _ _ _ _ _ hmc ⟨h.1, by omega⟩ ⟨p1.1, by omega⟩ hv1 rfl p4 k1 k2 hz (by rw [n1 hz, mod_succ]) w
        · obtain ⟨e1, e2⟩ := n2 hz
          rw [e1, e2, ← Int.add_assoc] at k2
          exact walks_same x b _ _ _ hmc ⟨h.1, by omega⟩ ⟨p1.1, by omega⟩ hv1 rfl p4 k1 k2 hz w
  · exact walks_no x b 8 n8 (spot_bad x hx b) w

set_option maxRecDepth 100000 in
theorem round_no (x : Cfg) (s E : Int) (hE : (E != 0) = true) (k1 : ∀ W, Calls Try.prog 11 #[x.val, .int .i64 s] W fun e' w' => e' = .returned (.tuple #[.int .i64 0, .int .i64 E]) ∧ Below W.heap.size W w') (w : World) :
    Calls Try.prog 4 #[x.val, .int .i64 s] w fun e w' => e = .returned (.bool true) ∧ Below w.heap.size w w' := by
  have K1 := Lib.hid k1
  clear k1
  obtain ⟨id, m, c, r, l, h⟩ := x
  unfold Cfg.val at *
  dsimp only at *
  go_enter Try.func4, Try.ntmps4
  go_wp2_with fail
  have A0 := BoxOf.new w #[.int .u32 (id : Int), .int .i64 m, .int .i64 c, .int .i64 r, .int .i64 l, .int .i64 h] 24
  have t0 := Ext.alloc (Below.refl w.heap.size w) (.cells #[.int .u32 (id : Int), .int .i64 m, .int .i64 c, .int .i64 r, .int .i64 l, .int .i64 h] 24)
  refine (talive_any _).mono ?_
  rintro e' w1 ⟨rfl, b1⟩
  have A1 := A0.next b1
  have t1 := Ext.trans t0 b1
  have x1 := A1.cell
  clear A0 t0 b1
  go_wp2_with fail
  refine (K1.out _).mono ?_
  rintro e' w2 ⟨rfl, b2⟩
  have t2 := Ext.trans t1 b2
  go_wp2
  go_ret
  exact ⟨rfl, t2⟩

set_option maxRecDepth 100000 in
theorem round_ok (x : Cfg) (hx : x.Ok) (s : Int) (h1 : 0 ≤ s ∧ s < x.c * x.r) (w : World) :
    Calls Try.prog 4 #[x.val, .int .i64 s] w fun e w' => e = .returned (.bool true) ∧ Below w.heap.size w w' := by
  obtain ⟨hm1, hm2, hc1, hc2, hr1, hr2⟩ := Cfg.four hx
  have hcr := Cfg.cr hx
  obtain ⟨hk0, hk1⟩ := row_lt hc1 h1
  have K1 := Lib.hid (parity_ok x hx s h1)
  have KN := Lib.hid (fun i hi W => parity_ok x hx (s + i * x.c) hi W)
  have KA := Lib.hid (fun i hi W => parity_err x (s + i * x.c) 2 n2 (at_arg x hx (s + i * x.c) 0 1 hi) W)
  have hfl := row_le (s := s) hc1
  have hf0 : 0 ≤ s / x.c * x.c := Int.mul_nonneg hk0 (by omega)
  have KF := Lib.hid (fun W => parity_ok x hx (s / x.c * x.c) ⟨hf0, by omega⟩ W)
  rw [row_first hc1] at KF
  have HR := Lib.hid (fun i hi => round_on (m := x.m) (row := s / x.c) (i := i) ⟨hm1, hm2⟩ ⟨hk0, by omega⟩ hi)
  have HP := Lib.hid (fun i => row_plus (s := s) (c := x.c) (i := i) hc1)
  have hv1 : 0 ≤ s / x.c % x.m := Int.emod_nonneg _ (by omega)
  have hv2 : s / x.c % x.m < x.m := Int.emod_lt_of_pos _ (by omega)
  obtain ⟨id, m, c, r, l, h⟩ := x
  unfold Cfg.val at *
  dsimp only at *
  clear hx
  obtain ⟨g1, g2⟩ := h1
  have hrow : Hid (s / c < r) := hk1
  generalize hn : c * r = n at *
  go_enter Try.func4, Try.ntmps4
  go_wp2_with fail
  have A0 := BoxOf.new w #[.int .u32 (id : Int), .int .i64 m, .int .i64 c, .int .i64 r, .int .i64 l, .int .i64 h] 24
  have t0 := Ext.alloc (Below.refl w.heap.size w) (.cells #[.int .u32 (id : Int), .int .i64 m, .int .i64 c, .int .i64 r, .int .i64 l, .int .i64 h] 24)
  refine (talive_any _).mono ?_
  rintro e' w1 ⟨rfl, b1⟩
  have A1 := A0.next b1
  have t1 := Ext.trans t0 b1
  have x1 := A1.cell
  clear A0 t0 b1
  go_wp2_with fail
  refine (K1.out _).mono ?_
  rintro e' w2 ⟨rfl, b2⟩
  have A2 := A1.next b2
  have t2 := Ext.trans t1 b2
  clear A1 x1 t1 b2
  have x2 := A2.cell
  go_wp2
  go_loopw [8] (fun i wr => ∃ k : Nat, 1 ≤ k ∧ k ≤ 16 ∧ i = .int .i64 k ∧ Below w.heap.size w wr ∧ BoxOf wr w.heap.size #[.int .u32 (id : Int), .int .i64 m, .int .i64 c, .int .i64 r, .int .i64 l, .int .i64 h] 24) (fun i _ => 16 - (intOf i).toNat)
  case atStart => exact ⟨1, by omega, by omega, rfl, t2, A2⟩
  case round =>
    obtain ⟨k, hk1, hk2, rfl, bk, Ak⟩ := hrel
    have xk := Ak.cell
    have hkc0 : 0 ≤ (k : Int) * c := Int.mul_nonneg (by omega) (by omega)
    have hkc1 : (k : Int) * c ≤ 16 * 8 := Int.mul_le_mul (by omega) (by omega) (by omega) (by omega)
    by_cases hlt : k < 16
    · by_cases hin : s + (k : Int) * c < n
      · have KNk := Lib.hid (KN.out (k : Int) ⟨by omega, hin⟩)
        have hrl := row_lt hc1 (show 0 ≤ s + (k : Int) * c ∧ s + (k : Int) * c < c * r by omega)
        rw [HP.out (k : Int)] at hrl KNk
        have hiff := HR.out (k : Int) ⟨by omega, by omega⟩
        by_cases hz : (k : Int) % m = 0
        · have hz' : ((k : Int) % m == 0) = true := beq_iff_eq.2 hz
          rw [hiff.2 hz] at KNk
          have HZ := Lib.hid hz'
          clear hiff hz hz' hrl hin
          go_wp2_with fail
          refine (KNk.out _).mono ?_
          rintro e' w3 ⟨rfl, b3⟩
          have hz := HZ.out
          have A3 := Ak.next b3
          have t3 := Ext.trans bk b3
          have x3 := A3.cell
          clear Ak bk b3 xk
          go_wp2
          go_roundw
          case rel => exact ⟨k + 1, by omega, by omega, by go_num, t3, A3⟩
          case measure => simp [intOf]; omega
        · have hz' : ((k : Int) % m == 0) = false := beq_eq_false_iff_ne.2 hz
          have hq : (m - 1 - (s / c + (k : Int)) % m == m - 1 - s / c % m) = false := beq_eq_false_iff_ne.2 (fun e => hz (hiff.1 e))
          have HZ := Lib.hid hz'
          have HQ := Lib.hid hq
          clear hiff hz hz' hrl hin hq
          generalize m - 1 - (s / c + (k : Int)) % m = v at *
          go_wp2_with fail
          refine (KNk.out _).mono ?_
          rintro e' w3 ⟨rfl, b3⟩
          have hz := HZ.out
          have hq := HQ.out
          have A3 := Ak.next b3
          have t3 := Ext.trans bk b3
          have x3 := A3.cell
          clear Ak bk b3 xk
          go_wp2
          go_roundw
          case rel => exact ⟨k + 1, by omega, by omega, by go_num, t3, A3⟩
          case measure => simp [intOf]; omega
      · have KAk := Lib.hid (KA.out (k : Int) (by unfold Off; omega))
        go_wp2_with fail
        refine (KAk.out _).mono ?_
        rintro e' w3 ⟨rfl, b3⟩
        have A3 := Ak.next b3
        have t3 := Ext.trans bk b3
        clear Ak bk b3 xk hin
        go_wp2_with fail
        have q1 : s.tdiv c = s / c := Int.tdiv_eq_ediv_of_nonneg g1
        have q2 : IntKind.i64.wrap (s / c) = s / c := i64_fit (by have := hrow.out; omega)
        have q3 : IntKind.i64.wrap (s / c * c) = s / c * c := i64_fit (by omega)
        have f1 : ¬ c = 0 := by omega
        have f2 : (c == 0) = false := by simp; omega
        go_region_held3 (fun w' => Below w.heap.size w w' ∧ BoxOf w' w.heap.size #[.int .u32 (id : Int), .int .i64 m, .int .i64 c, .int .i64 r, .int .i64 l, .int .i64 h] 24 ∧ ∀ o, w'.cell? ⟨w.heap.size, o, none⟩ = #[.int .u32 (id : Int), .int .i64 m, .int .i64 c, .int .i64 r, .int .i64 l, .int .i64 h].toList[o]?)
          (first | exact ⟨Ext.drew t3, A3.drew, A3.drew.cell⟩ | exact ⟨Ext.trans (And.left (by assumption)) k3, BoxOf.next (And.left (And.right (by assumption))) k3, (BoxOf.next (And.left (And.right (by assumption))) k3).cell⟩ | assumption)
          ((go_at_call 11; refine (KF.out _).mono ?_; rintro e w3 ⟨rfl, k3⟩))
        rename_i hH
        obtain ⟨bH, AH, xH⟩ := hH
        clear q1 q2 q3 f1 f2 AH xH
        go_wp2
        go_ret
        exact ⟨rfl, bH⟩
    · clear xk
      go_wp2_with fail
      all_goals
        have q1 : s.tdiv c = s / c := Int.tdiv_eq_ediv_of_nonneg g1
        have q2 : IntKind.i64.wrap (s / c) = s / c := i64_fit (by have := hrow.out; omega)
        have q3 : IntKind.i64.wrap (s / c * c) = s / c * c := i64_fit (by omega)
        have f1 : ¬ c = 0 := by omega
        have f2 : (c == 0) = false := by simp; omega
        go_region_held3 (fun w' => Below w.heap.size w w' ∧ BoxOf w' w.heap.size #[.int .u32 (id : Int), .int .i64 m, .int .i64 c, .int .i64 r, .int .i64 l, .int .i64 h] 24 ∧ ∀ o, w'.cell? ⟨w.heap.size, o, none⟩ = #[.int .u32 (id : Int), .int .i64 m, .int .i64 c, .int .i64 r, .int .i64 l, .int .i64 h].toList[o]?)
          (first | exact ⟨Ext.drew bk, Ak.drew, Ak.drew.cell⟩ | exact ⟨Ext.trans (And.left (by assumption)) k3, BoxOf.next (And.left (And.right (by assumption))) k3, (BoxOf.next (And.left (And.right (by assumption))) k3).cell⟩ | assumption)
          ((go_at_call 11; refine (KF.out _).mono ?_; rintro e w3 ⟨rfl, k3⟩))
        rename_i hH
        obtain ⟨bH, AH, xH⟩ := hH
        clear q1 q2 q3 f1 f2 AH xH
        go_wp2
        go_ret
        exact ⟨rfl, bH⟩

theorem turnRound_walk (w : World) (cs : List Value) (y : (Ty.st (.prod .u32 (.prod .int (.prod .int (.prod .int (.prod .int (.prod .int .unit))))))).T) (h0 : Reads w (Ty.st (.prod .u32 (.prod .int (.prod .int (.prod .int (.prod .int (.prod .int .unit))))))) y cs) (v1 : Value) (s : Ty.int.T) (h1 : Reads w .int s [v1]) :
    Calls Try.prog 4 #[.agg cs.toArray, v1] w fun e w' => e = .returned (.bool true) ∧ Below w.heap.size w w' := by
  obtain ⟨x, hx, _⟩ := cfg_open h0
  rw [hx]
  clear hx h0 y
  obtain ⟨rfl, _⟩ := one_int h1
  clear h1
  revert s
  show ∀ s : Int, _
  rintro s -
  by_cases hx : x.Ok
  · rcases Off.or s (x.c * x.r) 0 1 with h | ⟨h1, h2, _, _⟩
    · exact round_no x s 2 n2 (parity_err x s 2 n2 (at_arg x hx s 0 1 h)) w
    · exact round_ok x hx s ⟨h1, h2⟩ w
  · exact round_no x s 8 n8 (parity_err x s 8 n8 (at_bad x hx s 0 1)) w
end Go.Proofs.Ytdeffbhkmmppmaa
