/- Layer 7 (turn): the document's answers, member of a slot, block of a slot, and what is refused. -/
import Derived.Test.YtdeffbhkmmppmaaTurn5
import Derived.Test.YtdeffbhkmmppmaaTurnPlain
namespace Go.Proofs.Ytdeffbhkmmppmaa
open Go.RowKit
set_option linter.unusedSimpArgs false

/-- what is needed of a config, in Int's form -/
theorem Cfg.four {x : Cfg} (h : x.Ok) : 3 ≤ x.m ∧ x.m ≤ 16 ∧ 1 ≤ x.c ∧ x.c ≤ 8 ∧ 1 ≤ x.r ∧ x.r ≤ 8 := by
  obtain ⟨⟨a, b, c, d, e, f, _⟩, _⟩ := h
  exact ⟨a, b, c, d, e, f⟩

set_option maxRecDepth 100000 in
theorem on_low (x : Cfg) (hx : x.Ok) (s k : Int) (h1 : 0 ≤ s ∧ s < x.c * x.r) (h2 : 0 ≤ k ∧ k < x.m - 1) (w : World) :
    Calls Try.prog 33 #[x.val, .int .i64 s, .int .i64 k] w fun e w' => e = .returned (.int .i64 ((s / x.c * (x.m - 1) + k) % x.m)) ∧ Below w.heap.size w w' := by
  obtain ⟨hm1, hm2, hc1, hc2, hr1, hr2⟩ := Cfg.four hx
  have hcr := Cfg.cr hx
  obtain ⟨hk0, hk1⟩ := row_lt hc1 h1
  obtain ⟨id, m, c, r, l, h⟩ := x
  unfold Cfg.val at *
  dsimp only at *
  have hp0 : 0 ≤ s / c * (m - 1) := Int.mul_nonneg hk0 (by omega)
  have hp1 : s / c * (m - 1) ≤ 8 * 15 := Int.mul_le_mul (by omega) (by omega) (by omega) (by omega)
  clear hx
  obtain ⟨g1, g2⟩ := h1
  obtain ⟨g3, g4⟩ := h2
  have hne : (k == m - 1) = false := by simp; omega
  go_enter Try.func33, Try.ntmps33
  go_wp2
  go_ret
  exact ⟨rfl, Ext.alloc (Below.refl _ _) _⟩

set_option maxRecDepth 100000 in
theorem on_par (x : Cfg) (hx : x.Ok) (s : Int) (h1 : 0 ≤ s ∧ s < x.c * x.r) (w : World) :
    Calls Try.prog 33 #[x.val, .int .i64 s, .int .i64 (x.m - 1)] w fun e w' => e = .returned (.int .i64 (x.m - 1 - s / x.c % x.m)) ∧ Below w.heap.size w w' := by
  obtain ⟨hm1, hm2, hc1, hc2, hr1, hr2⟩ := Cfg.four hx
  obtain ⟨hk0, hk1⟩ := row_lt hc1 h1
  have hcr := Cfg.cr hx
  have hsum := Lib.hid (on_sum (m := x.m) (row := s / x.c) ⟨hm1, hm2⟩ ⟨hk0, by omega⟩)
  have HL := Lib.hid (fun k hk W => on_low x hx s k h1 hk W)
  have hbd := fun k => sumOn_bd x.m (s / x.c) (by omega) k
  have hmm : 0 ≤ x.m * (x.m - 1) ∧ x.m * (x.m - 1) ≤ 16 * 15 := ⟨Int.mul_nonneg (by omega) (by omega), Int.mul_le_mul (by omega) (by omega) (by omega) (by omega)⟩
  obtain ⟨id, m, c, r, l, h⟩ := x
  unfold Cfg.val at *
  dsimp only at *
  clear hx
  obtain ⟨g1, g2⟩ := h1
  obtain ⟨hmm1, hmm2⟩ := hmm
  have HB := Lib.hid hbd
  clear hbd
  go_enter Try.func33, Try.ntmps33
  go_wp2
  have A0 := Lib.hid (BoxOf.new w #[.int .u32 (id : Int), .int .i64 m, .int .i64 c, .int .i64 r, .int .i64 l, .int .i64 h] 24)
  have b0 := Ext.alloc (Below.refl w.heap.size w) (.cells #[.int .u32 (id : Int), .int .i64 m, .int .i64 c, .int .i64 r, .int .i64 l, .int .i64 h] 24)
  generalize w.alloc (.cells #[.int .u32 (id : Int), .int .i64 m, .int .i64 c, .int .i64 r, .int .i64 l, .int .i64 h] 24) = w0 at A0 b0 ⊢
  go_loopw [8, 9] (fun u i wr => ∃ k : Nat, (k : Int) ≤ m - 1 ∧ i = .int .i64 k ∧ u = .int .i64 (sumOn m (s / c) k) ∧ Below w.heap.size w wr ∧ BoxOf wr w.heap.size #[.int .u32 (id : Int), .int .i64 m, .int .i64 c, .int .i64 r, .int .i64 l, .int .i64 h] 24) (fun _ i _ => m.toNat - (intOf i).toNat)
  case atStart => exact ⟨0, by omega, rfl, rfl, b0, A0.out⟩
  case round =>
    obtain ⟨k, hk, rfl, rfl, bk, Ak⟩ := hrel
    have xk := Ak.cell
    obtain ⟨u1, u2⟩ := HB.out k
    have u3 : m * (k : Int) ≤ 16 * 16 := Int.mul_le_mul (by omega) (by omega) (by omega) (by omega)
    have HA := Lib.hid Ak
    clear Ak
    by_cases hlt : (k : Int) < m - 1
    · have v1 : 0 ≤ (s / c * (m - 1) + (k : Int)) % m := Int.emod_nonneg _ (by omega)
      have v2 : (s / c * (m - 1) + (k : Int)) % m < m := Int.emod_lt_of_pos _ (by omega)
      have hs : sumOn m (s / c) (k + 1) = sumOn m (s / c) k + (s / c * (m - 1) + (k : Int)) % m := rfl
      have HS := Lib.hid hs
      clear hs
      have HLk := Lib.hid (HL.out k ⟨by omega, hlt⟩)
      generalize (s / c * (m - 1) + (k : Int)) % m = t at *
      go_wp2_with fail
      refine (HLk.out _).mono ?_
      rintro e w1 ⟨rfl, b1⟩
      have A1 := HA.out.next b1
      have bt := Ext.trans bk b1
      have HA1 := Lib.hid A1
      clear A1 HA bk b1
      go_wp2
      go_roundw
      case rel => exact ⟨k + 1, by omega, by go_num, by rw [HS.out], bt, HA1.out⟩
      case measure => simp [intOf]; omega
    · have hkm : k = (m - 1).toNat := by omega
      have HF : Hid (m * (m - 1) / 2 - sumOn m (s / c) k = m - 1 - s / c % m) := by rw [hkm]; exact hsum
      clear hkm
      go_wp2
      go_ret
      exact ⟨ret_int HF.out, bk⟩

set_option maxRecDepth 100000 in
theorem rat_ok (x : Cfg) (hx : x.Ok) (s k : Int) (h1 : 0 ≤ s ∧ s < x.c * x.r) (h2 : 0 ≤ k ∧ k < x.m - 1) (w : World) :
    Calls Try.prog 32 #[x.val, .int .i64 s, .int .i64 k] w fun e w' => e = .returned (.int .i64 ((s / x.c * (x.m - 1) + k) * x.c + s % x.c)) ∧ Below w.heap.size w w' := by
  obtain ⟨hm1, hm2, hc1, hc2, hr1, hr2⟩ := Cfg.four hx
  obtain ⟨hk0, hk1⟩ := row_lt hc1 h1
  have hcr := Cfg.cr hx
  have hq0 : 0 ≤ s % x.c := Int.emod_nonneg _ (by omega)
  have hq1 : s % x.c < x.c := Int.emod_lt_of_pos _ (by omega)
  obtain ⟨id, m, c, r, l, h⟩ := x
  unfold Cfg.val at *
  dsimp only at *
  have hp0 : 0 ≤ s / c * (m - 1) := Int.mul_nonneg hk0 (by omega)
  have hp1 : s / c * (m - 1) ≤ 8 * 15 := Int.mul_le_mul (by omega) (by omega) (by omega) (by omega)
  have hv0 : 0 ≤ (s / c * (m - 1) + k) * c := Int.mul_nonneg (by omega) (by omega)
  have hv1 : (s / c * (m - 1) + k) * c ≤ 200 * 8 := Int.mul_le_mul (by omega) (by omega) (by omega) (by omega)
  clear hx
  obtain ⟨g1, g2⟩ := h1
  obtain ⟨g3, g4⟩ := h2
  have c0 : (c == 0) = false := by simp; omega
  have q1 : s.tdiv c = s / c := Int.tdiv_eq_ediv_of_nonneg g1
  have q2 : s.tmod c = s % c := Int.tmod_eq_emod_of_nonneg g1
  have q3 : IntKind.i64.wrap (s / c) = s / c := i64_fit (by omega)
  have q4 : IntKind.i64.wrap (m - 1) = m - 1 := i64_fit (by omega)
  have q5 : IntKind.i64.wrap (s / c * (m - 1)) = s / c * (m - 1) := i64_fit (by omega)
  have q6 : IntKind.i64.wrap (s / c * (m - 1) + k) = s / c * (m - 1) + k := i64_fit (by omega)
  have q7 : IntKind.i64.wrap ((s / c * (m - 1) + k) * c) = (s / c * (m - 1) + k) * c := i64_fit (by omega)
  have q8 : IntKind.i64.wrap ((s / c * (m - 1) + k) * c + s % c) = (s / c * (m - 1) + k) * c + s % c := i64_fit (by omega)
  have q9 : ¬ c = 0 := by omega
  go_enter Try.func32, Try.ntmps32
  go_wp2_with fail
  go_quiet (fail)
  clear q1 q2 q3 q4 q5 q6 q7 q8
  go_wp2
  go_ret
  exact ⟨rfl, below_drewN' (Ext.alloc (Below.refl _ _) _) _⟩

set_option maxRecDepth 100000 in
theorem asked_bad (x : Cfg) (hx : ¬ x.Ok) (s n o b : Int) (w : World) :
    Calls Try.prog 29 #[x.val, .int .i64 s, .int .i64 n, .int .i64 o, .int .i64 b] w fun e w' => e = .returned (.int .i64 8) ∧ Below w.heap.size w w' := by
  have HM := Lib.hid (may_no x hx)
  obtain ⟨id, m, c, r, l, h⟩ := x
  unfold Cfg.val at *
  dsimp only at *
  go_enter Try.func29, Try.ntmps29
  go_wp2_with fail
  refine (HM.out _).mono ?_
  rintro e w1 ⟨rfl, b1⟩
  go_wp2
  go_ret
  exact ⟨rfl, Ext.trans (Ext.alloc (Below.refl _ _) _) b1⟩

set_option maxRecDepth 100000 in
theorem asked_arg (x : Cfg) (hx : x.Ok) (s n o b : Int) (ho : Off s n o b) (w : World) :
    Calls Try.prog 29 #[x.val, .int .i64 s, .int .i64 n, .int .i64 o, .int .i64 b] w fun e w' => e = .returned (.int .i64 2) ∧ Below w.heap.size w w' := by
  have HM := Lib.hid (may_yes x hx)
  obtain ⟨id, m, c, r, l, h⟩ := x
  unfold Cfg.val at *
  dsimp only at *
  clear hx
  rcases ho with ho | ⟨h1, ho⟩ | ⟨⟨h1, h2⟩, ho⟩ | ⟨⟨h1, h2⟩, h3, ho⟩
  all_goals
    go_enter Try.func29, Try.ntmps29
    go_wp2_with fail
    refine (HM.out _).mono ?_
    rintro e w1 ⟨rfl, b1⟩
    go_wp2
    go_ret
    exact ⟨rfl, Ext.trans (Ext.alloc (Below.refl _ _) _) b1⟩

set_option maxRecDepth 100000 in
theorem asked_ok (x : Cfg) (hx : x.Ok) (s n o b : Int) (h1 : 0 ≤ s ∧ s < n) (h2 : 0 ≤ o ∧ o < b) (w : World) :
    Calls Try.prog 29 #[x.val, .int .i64 s, .int .i64 n, .int .i64 o, .int .i64 b] w fun e w' => e = .returned (.int .i64 0) ∧ Below w.heap.size w w' := by
  have HM := Lib.hid (may_yes x hx)
  obtain ⟨id, m, c, r, l, h⟩ := x
  unfold Cfg.val at *
  dsimp only at *
  clear hx
  obtain ⟨h1, h3⟩ := h1
  obtain ⟨h2, h4⟩ := h2
  go_enter Try.func29, Try.ntmps29
  go_wp2_with fail
  refine (HM.out _).mono ?_
  rintro e w1 ⟨rfl, b1⟩
  go_wp2
  go_ret
  exact ⟨rfl, Ext.trans (Ext.alloc (Below.refl _ _) _) b1⟩
end Go.Proofs.Ytdeffbhkmmppmaa
