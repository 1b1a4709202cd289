/- Layer 7 (turn): each block has one slot, each slot one block: the statement. -/
import Derived.Test.YtdeffbhkmmppmaaTurnLaws3
namespace Go.Proofs.Ytdeffbhkmmppmaa
open Go.RowKit
set_option linter.unusedSimpArgs false

theorem back_one (x : Cfg) (hx : x.Ok) (b : Int) : ∃ sp sq sv e : Int, (∀ W, Calls Try.prog 9 #[x.val, .int .i64 (b)] W fun e' w' => e' = .returned (.tuple #[.agg #[.int .i64 (sp), .int .i64 (sq), .int .i64 (sv)], .int .i64 (e)]) ∧ Below W.heap.size W w') ∧ BackOne x b sp sq sv e := by
  obtain ⟨hm1, hm2, hc1, hc2, hr1, hr2⟩ := Cfg.four hx
  rcases (show (b < 0 ∨ (0 ≤ b ∧ x.c * x.r * (x.m - 1) ≤ b)) ∨ (0 ≤ b ∧ b < x.c * x.r * (x.m - 1)) by omega) with h | h
  · exact ⟨0, 0, 0, 2, spot_arg x hx b h, .inr (by decide)⟩
  · obtain ⟨p1, p2, p3, p4, p5⟩ := spot_in hc1 hm1 h
    refine ⟨_, _, _, _, spot_ok x hx b h, .inl ⟨rfl, fun W => ?_, fun W => ?_⟩⟩
    · have := block_ok x hx _ _ p1 p2 W
      rw [p5] at this
      exact this
    · have := member_ok x hx _ _ p1 ⟨p2.1, by omega⟩ W
      rw [p3] at this
      exact this
theorem back_two (x : Cfg) (hx : x.Ok) (s mm : Int) : ∃ k h : Int, (∀ W, Calls Try.prog 15 #[x.val, .int .i64 (s), .int .i64 (mm)] W fun e' w' => e' = .returned (.tuple #[.int .i64 (k), .int .i64 (h)]) ∧ Below W.heap.size W w') ∧ BackTwo x s mm k h := by
  obtain ⟨hm1, hm2, hc1, hc2, hr1, hr2⟩ := Cfg.four hx
  rcases Off.or s (x.c * x.r) mm x.m with h | ⟨h1, h2, h3, h4⟩
  · exact ⟨0, 2, slot_err x s mm 2 n2 (at_arg x hx s mm _ h), .inl (by decide)⟩
  · have hr := row_lt hc1 ⟨h1, h2⟩
    obtain ⟨q1, q2⟩ := back_on ⟨hm1, hm2⟩ ⟨hr.1, show s / x.c < 8 by omega⟩ ⟨h3, h4⟩
    have q3 : 0 ≤ (mm + x.m - (x.m - 1 - s / x.c % x.m) - 1) % x.m := Int.emod_nonneg _ (by omega)
    have q4 : (mm + x.m - (x.m - 1 - s / x.c % x.m) - 1) % x.m < x.m := Int.emod_lt_of_pos _ (by omega)
    refine ⟨_, _, slot_ok x hx s mm ⟨h1, h2⟩ ⟨h3, h4⟩, .inr ⟨rfl, fun W => ?_, _, parity_ok x hx s ⟨h1, h2⟩, ?_⟩⟩
    · have := member_ok x hx s _ ⟨h1, h2⟩ ⟨q3, q4⟩ W
      rw [q1] at this
      exact this
    · by_cases hk : (mm + x.m - (x.m - 1 - s / x.c % x.m) - 1) % x.m = x.m - 1
      · exact .inl ⟨beq_iff_eq.2 hk, beq_iff_eq.2 (q2.1 hk)⟩
      · refine .inr ⟨beq_eq_false_iff_ne.2 hk, beq_eq_false_iff_ne.2 (fun e => hk (q2.2 e)), _, block_ok x hx s _ ⟨h1, h2⟩ ⟨q3, by omega⟩, fun W => ?_⟩
        generalize hg : (mm + x.m - (x.m - 1 - s / x.c % x.m) - 1) % x.m = k at *
        obtain ⟨u1, u2⟩ := at_inj (c := x.c) (m := x.m) (s := s) (k := k) hc1 hm1 ⟨q3, by omega⟩ rfl
        have hk3 : 0 ≤ s % x.c := Int.emod_nonneg _ (by omega)
        have hk4 : s % x.c < x.c := Int.emod_lt_of_pos _ (by omega)
        have v0 : 0 ≤ s / x.c * (x.m - 1) := Int.mul_nonneg hr.1 (by omega)
        have v1 : 0 ≤ (s / x.c * (x.m - 1) + k) * x.c := Int.mul_nonneg (by omega) (by omega)
        have v2 : s / x.c * (x.m - 1) ≤ (x.r - 1) * (x.m - 1) := Int.mul_le_mul_of_nonneg_right (by omega) (by omega)
        have v3 : (x.r - 1) * (x.m - 1) = x.r * (x.m - 1) - (x.m - 1) := by rw [Int.sub_mul, Int.one_mul]
        have v4 : (s / x.c * (x.m - 1) + k) * x.c ≤ (x.r * (x.m - 1) - 1) * x.c := Int.mul_le_mul_of_nonneg_right (by omega) (by omega)
        have v5 : (x.r * (x.m - 1) - 1) * x.c = x.c * x.r * (x.m - 1) - x.c := by
          rw [Int.sub_mul, Int.one_mul, Int.mul_comm _ x.c, ← Int.mul_assoc]
        generalize hb : (s / x.c * (x.m - 1) + k) * x.c + s % x.c = b at *
        have hb1 : 0 ≤ b ∧ b < x.c * x.r * (x.m - 1) := ⟨by omega, by omega⟩
        obtain ⟨p1, p2, p3, p4, p5⟩ := spot_in hc1 hm1 hb1
        have h := spot_ok x hx b hb1 W
        rw [u1] at p3
        rw [u1, u2, ← p3, q1] at h
        exact h

theorem turnBack_walk (w : World) (cs : List Value) (y : (Ty.st (.prod .u32 (.prod .int (.prod .int (.prod .int (.prod .int (.prod .int .unit))))))).T) (h0 : Reads w (Ty.st (.prod .u32 (.prod .int (.prod .int (.prod .int (.prod .int (.prod .int .unit))))))) y cs) (v1 : Value) (b : Ty.int.T) (h1 : Reads w .int b [v1]) (v2 : Value) (s : Ty.int.T) (h2 : Reads w .int s [v2]) (v3 : Value) (mm : Ty.int.T) (h3 : Reads w .int mm [v3]) :
    Calls Try.prog 7 #[.agg cs.toArray, v1, v2, v3] w fun e w' => e = .returned (.bool true) ∧ Below w.heap.size w w' := by
  obtain ⟨x, hx, _⟩ := cfg_open h0
  rw [hx]
  clear hx h0 y
  obtain ⟨rfl, _⟩ := one_int h1
  obtain ⟨rfl, _⟩ := one_int h2
  obtain ⟨rfl, _⟩ := one_int h3
  clear h1 h2 h3
  revert b s mm
  show ∀ b s mm : Int, _
  rintro b s mm - - -
  by_cases hx : x.Ok
  · obtain ⟨hm1, hm2, _⟩ := Cfg.four hx
    obtain ⟨sp, sq, sv, e, k1, hone⟩ := back_one x hx b
    obtain ⟨k, hh, k4, htwo⟩ := back_two x hx s mm
    rcases hone with ⟨he, k2, k3⟩ | he
    · rcases htwo with h | ⟨h, k5, p, k6, ⟨j1, j2⟩ | ⟨j1, j2, b2, k7, k8⟩⟩
      · exact back_aa x b s mm sp sq sv e k hh ⟨by omega, by omega⟩ k1 k4 he k2 k3 h w
      · exact back_ab x b s mm sp sq sv e k hh ⟨by omega, by omega⟩ k1 k4 he k2 k3 h k5 p k6 j1 j2 w
      · exact back_ac x b s mm sp sq sv e k hh ⟨by omega, by omega⟩ k1 k4 he k2 k3 h k5 p k6 j1 j2 b2 k7 k8 w
    · rcases htwo with h | ⟨h, k5, p, k6, ⟨j1, j2⟩ | ⟨j1, j2, b2, k7, k8⟩⟩
      · exact back_ba x b s mm sp sq sv e k hh k1 k4 he h w
      · exact back_bb x b s mm sp sq sv e k hh ⟨by omega, by omega⟩ k1 k4 he h k5 p k6 j1 j2 w
      · exact back_bc x b s mm sp sq sv e k hh ⟨by omega, by omega⟩ k1 k4 he h k5 p k6 j1 j2 b2 k7 k8 w
  · exact back_ba x b s mm 0 0 0 8 0 8 (spot_bad x hx b) (slot_err x s mm 8 n8 (at_bad x hx s mm _)) (by decide) (by decide) w
end Go.Proofs.Ytdeffbhkmmppmaa
