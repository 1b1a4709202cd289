/- The reference's sums (freeboardref01): bit by bit, the same. -/
import Derived.Test.YtggdfecgkhnkkaaPoly
namespace Go.Proofs.Ytggdfecgkhnkkaa
open Go.RowKit

/-- so many bits -/
def Crc.bitN : Nat → Nat → Nat
  | 0, s => s
  | k + 1, s => Crc.bit (Crc.bitN k s)
theorem Crc.bit_lt (s : Nat) (h : s < 2 ^ 32) : Crc.bit s < 2 ^ 32 := by
  unfold Crc.bit
  split
  · exact Nat.xor_lt_two_pow (by omega) (by decide)
  · omega
theorem Crc.bitN_lt (k s : Nat) (h : s < 2 ^ 32) : Crc.bitN k s < 2 ^ 32 := by
  induction k with
  | zero => exact h
  | succ k ih => exact Crc.bit_lt _ ih
theorem neg_sub_u32 (s : Nat) (hs : s < 2 ^ 32) : (4294967295 : Int) - (s : Int) = ((Crc.neg s : Nat) : Int) := by
  rw [Crc.neg_sub s hs]
  omega

theorem with_any (s : Nat) (x : UInt8) (hs : s < 2 ^ 32) (w : World) :
    Calls Try.prog 45 #[.int .u32 s, .int .u8 (x.toNat : Int)] w fun e w' => e = .returned (.int .u32 (Crc.neg (Crc.step (Crc.neg s) x))) ∧ w = w' := by
  have hstep := Crc.bit8 (Crc.neg s) x
  have HS := Lib.hid hstep
  clear hstep
  have hx := x.toNat_lt
  have hn := Crc.neg_lt s hs
  have e1 := neg_sub_u32 s hs
  have h1 := xor_u32 (Crc.neg s) x.toNat hn (by omega)
  have hy : Crc.neg s ^^^ x.toNat < 2 ^ 32 := Nat.xor_lt_two_pow hn (by omega)
  go_enter Try.func45, Try.ntmps45
  go_wp2
  clear e1 h1
  go_loop [5, 6] (fun v i => ∃ k r : Nat, k ≤ 8 ∧ r < 2 ^ 32 ∧ r = Crc.bitN k (Crc.neg s ^^^ x.toNat) ∧ i = .int .i64 k ∧ v = .int .u32 r) (fun _ i => 8 - (intOf i).toNat)
  case atStart => exact ⟨0, _, by omega, hy, rfl, rfl, rfl⟩
  case round =>
    obtain ⟨k, r, hk, hr, hrun, rfl, rfl⟩ := hrel
    by_cases hk8 : k < 8
    · have hb := Crc.bit_lt r hr
      have H : Hid (Crc.bit r = Crc.bitN (k + 1) (Crc.neg s ^^^ x.toNat)) := by rw [hrun]; exact rfl
      clear hrun
      by_cases ho : r % 2 = 1
      · have e2 : ((r : Int) % 2 == 1) = true := by simp; omega
        have e3 : bits .xor .u32 ((r : Int) / 2) 2197175160 = ((Crc.bit r : Nat) : Int) := by
          have := xor_u32 (r / 2) 2197175160 (by omega) (by decide)
          unfold Crc.bit
          rw [if_pos ho]
          simpa using this
        clear ho
        go_wp2
        go_round
        case rel => exact ⟨k + 1, Crc.bit r, by omega, hb, H.out, by go_num, rfl⟩
        case measure => simp [intOf]; omega
      · have e2 : ((r : Int) % 2 == 1) = false := by simp; omega
        have e3 : ((Crc.bit r : Nat) : Int) = (r : Int) / 2 := by
          unfold Crc.bit
          rw [if_neg ho]
          omega
        have E3 := Lib.hid e3
        clear e3 ho
        go_wp2
        go_round
        case rel => exact ⟨k + 1, Crc.bit r, by omega, hb, H.out, by go_num, by rw [E3.out]⟩
        case measure => simp [intOf]; omega
    · have hk' : k = 8 := by omega
      have e1 := neg_sub_u32 r hr
      have H := Lib.hid hrun
      clear hrun
      go_wp2
      go_ret
      refine ⟨?_, rfl⟩
      rw [← HS.out]
      have := H.out
      subst hk'
      rw [this]
      rfl

theorem rover_some (b off n c : Nat) (bs : List UInt8) (s : Nat) (hs : s < 2 ^ 32) (w : World) (hl : bs.length = n) (hn : n ≤ 1000000)
    (hc : ∀ j (hj : j < bs.length), w.cell? ⟨b, off + j, none⟩ = some (.int .u8 (bs[j].toNat : Int))) :
    Calls Try.prog 44 #[.int .u32 s, .slice (some ⟨b, off, none⟩) n c] w fun e w' => e = .returned (.int .u32 (Crc.over s bs)) ∧ w = w' := by
  go_enter Try.func44, Try.ntmps44
  go_wp2
  go_loop [0, 5] (fun v i => ∃ k r : Nat, k ≤ n ∧ r < 2 ^ 32 ∧ r = Crc.neg (Crc.run (Crc.neg s) (bs.take k)) ∧ i = .int .i64 k ∧ v = .int .u32 r) (fun _ i => n - (intOf i).toNat)
  case atStart => exact ⟨0, s, by omega, hs, (Crc.neg_neg s).symm, rfl, rfl⟩
  case round =>
    obtain ⟨k, r, hk, hr, hrun, rfl, rfl⟩ := hrel
    by_cases hlt2 : k < n
    · have hck : w.cell? ⟨b, off + k, none⟩ = some (.int .u8 (bs[k].toNat : Int)) := hc k (by omega)
      have hw := with_any r bs[k] hr w
      have hr2 : Crc.neg (Crc.step (Crc.neg r) bs[k]) < 2 ^ 32 := Crc.neg_lt _ (Crc.step_lt _ _ (Crc.neg_lt r hr))
      have H : Hid (Crc.neg (Crc.step (Crc.neg r) bs[k]) = Crc.neg (Crc.run (Crc.neg s) (bs.take (k + 1)))) := by
        show _ = _
        rw [List.take_succ_eq_append_getElem (by omega), Crc.run_snoc, hrun, Crc.neg_neg]
      clear hrun hc
      go_wp2_with (first | (go_at_call 45; refine hw.mono ?_; rintro e w' ⟨rfl, rfl⟩))
      go_round
      case rel => exact ⟨k + 1, _, by omega, hr2, H.out, by go_num, rfl⟩
      case measure => simp [intOf]; omega
    · have H2 := Lib.hid hrun
      clear hrun hc
      go_wp2
      go_ret
      refine ⟨?_, rfl⟩
      have h3 := H2.out
      rw [List.take_of_length_le (by omega)] at h3
      unfold Crc.over
      rw [← h3]
      rfl

theorem rover_none (A : Option Addr) (c : Nat) (s : Nat) (w : World) :
    Calls Try.prog 44 #[.int .u32 s, .slice A 0 c] w fun e w' => e = .returned (.int .u32 (Crc.over s [])) ∧ w = w' := by
  have H : Hid (s = Crc.over s []) := (Crc.neg_neg s).symm
  go_enter Try.func44, Try.ntmps44
  go_wp2
  refine wp_loop_rounds 1 ?_
  rw [rounds_succ]
  go_wp2
  go_ret
  exact ⟨by rw [← H.out]; rfl, rfl⟩

theorem rover_any (A : Option Addr) (n c : Nat) (bs : List UInt8) (s : Nat) (hs : s < 2 ^ 32) (w : World) (hb : Bs w A n bs) (hn : n ≤ 1000000) :
    Calls Try.prog 44 #[.int .u32 s, .slice A n c] w fun e w' => e = .returned (.int .u32 (Crc.over s bs)) ∧ w = w' := by
  by_cases h : n = 0
  · subst h
    have : bs = [] := by simpa using hb.1
    subst this
    exact rover_none A c s w
  · obtain ⟨b, off, rfl, _, hc⟩ := hb.addr (by omega)
    exact rover_some b off n c bs s hs w hb.1 hn hc

theorem rsum_any (A : Option Addr) (n c : Nat) (bs : List UInt8) (w : World) (hb : Bs w A n bs) (hn : n ≤ 1000000) :
    Calls Try.prog 43 #[.slice A n c] w fun e w' => e = .returned (.int .u32 (Crc.sum bs)) ∧ w = w' := by
  have h0 := rover_any A n c bs 0 (by decide) w hb hn
  go_enter Try.func43, Try.ntmps43
  go_wp2_with (first | (go_at_call 44; refine h0.mono ?_; rintro e w' ⟨rfl, rfl⟩))
  go_ret
  exact ⟨rfl, rfl⟩
end Go.Proofs.Ytggdfecgkhnkkaa
