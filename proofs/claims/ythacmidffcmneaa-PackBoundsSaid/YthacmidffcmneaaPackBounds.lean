/- The statement PackBounds of layer 2 (pack): its walk. -/
import Derived.Test.YthacmidffcmneaaPackLaws
namespace Go.Proofs.Ythacmidffcmneaa
open Go.RowKit

set_option maxRecDepth 100000 in
set_option maxHeartbeats 1000000 in
theorem bounds_fit (w : World) (A : Option Addr) (n c : Nat) (bs : List UInt8) (hn : n = 0 ∨ n = 128) (p k : Nat) (x : Int) (hk : 1 ≤ k ∧ k ≤ 4) (hp : p + k ≤ 128) (hb : Bs w A n bs) :
    Calls Try.prog 8 #[.slice A n c, .int .i64 p, .int .i64 k, .int .i64 x] w fun e w' => e = .returned (.bool true) ∧ Below w.heap.size w w' := by
  have hf : Fits p k := by unfold Fits; omega
  have hgt : decide ((p : Int) > 128 - (k : Int)) = false := decide_eq_false (by omega)
  have hle : n ≤ 128 := by omega
  by_cases hx : x < 0
  · have HF := Lib.hid hf
    have HN := Lib.hid hn
    clear hf hn
    have hk4 : k = 1 ∨ k = 2 ∨ k = 3 ∨ k = 4 := by omega
    go_enter Try.func8, Try.ntmps8
    go_wp2_with fail
    refine (kalive_any _).mono ?_
    rintro e w1 ⟨rfl, b1⟩
    go_wp2_with fail
    refine (put_arg _ _ _ bs HN.out _ _ _ (.inr (.inl ⟨HF.out, hx⟩)) _ (hb.below b1)).mono ?_
    rintro e w2 ⟨rfl, b2⟩
    go_wp2_with fail
    refine (take_ok _ _ _ bs HN.out p k hk hp _ ((hb.below b1).below b2)).mono ?_
    rintro e w3 ⟨rfl, b3⟩
    have bt := Ext.trans (Ext.trans b1 b2) b3
    clear hb b1 b2 b3
    rcases HN.out with rfl | rfl
    all_goals
      go_wp2
      go_ret
      exact ⟨rfl, bt⟩
  · obtain ⟨y, rfl⟩ := Int.eq_ofNat_of_zero_le (show 0 ≤ x by omega)
    clear hx
    by_cases hy : y < 256 ^ k
    · have HF := Lib.hid hf
      have HN := Lib.hid hn
      have HY := Lib.hid hy
      clear hf hn hy
      go_enter Try.func8, Try.ntmps8
      go_wp2_with fail
      refine (kalive_any _).mono ?_
      rintro e w1 ⟨rfl, b1⟩
      go_wp2_with fail
      refine (put_ok _ _ _ bs HN.out p k y hk hp HY.out _ (hb.below b1)).mono ?_
      rintro e w2 ⟨g, rfl, _, _, b2⟩
      go_wp2_with fail
      refine (take_ok _ _ _ bs HN.out p k hk hp _ ((hb.below b1).below b2)).mono ?_
      rintro e w3 ⟨rfl, b3⟩
      have bt := Ext.trans (Ext.trans b1 b2) b3
      have hk4 : k = 1 ∨ k = 2 ∨ k = 3 ∨ k = 4 := by omega
      have hy := HY.out
      have hd : decide ((y : Int) < (256 : Int) ^ k) = true := decide_eq_true (pow_lt_int k y hy)
      clear hb b1 b2 b3 HF HY
      rcases hk4 with h4 | h4 | h4 | h4
      · have hd2 : decide ((y : Int) < 256) = true := by rw [h4] at hd; exact hd
        have c1 : ((k : Int) == 1) = true := by simp; omega
        have c2 : ((k : Int) == 2) = false := by simp; omega
        have c3 : ((k : Int) == 3) = false := by simp; omega
        have c4 : ((k : Int) == 4) = false := by simp; omega
        have d1 : decide ((k : Int) < 1) = false := decide_eq_false (by omega)
        have d2 : decide ((k : Int) > 4) = false := decide_eq_false (by omega)
        have d3 : decide ((p : Int) < 0) = false := decide_eq_false (by omega)
        have d4 : decide ((y : Int) ≥ 0) = true := decide_eq_true (by omega)
        have d5 : 128 - (k : Int) ≤ 127 := by omega
        have d6 : 0 ≤ 128 - (k : Int) := by omega
        clear hy hd h4
        rcases HN.out with rfl | rfl
        all_goals
          go_wp2
          go_ret
          exact ⟨rfl, bt⟩
      · have hd2 : decide ((y : Int) < 65536) = true := by rw [h4] at hd; exact hd
        have c1 : ((k : Int) == 1) = false := by simp; omega
        have c2 : ((k : Int) == 2) = true := by simp; omega
        have c3 : ((k : Int) == 3) = false := by simp; omega
        have c4 : ((k : Int) == 4) = false := by simp; omega
        have d1 : decide ((k : Int) < 1) = false := decide_eq_false (by omega)
        have d2 : decide ((k : Int) > 4) = false := decide_eq_false (by omega)
        have d3 : decide ((p : Int) < 0) = false := decide_eq_false (by omega)
        have d4 : decide ((y : Int) ≥ 0) = true := decide_eq_true (by omega)
        have d5 : 128 - (k : Int) ≤ 127 := by omega
        have d6 : 0 ≤ 128 - (k : Int) := by omega
        clear hy hd h4
        rcases HN.out with rfl | rfl
        all_goals
          go_wp2
          go_ret
          exact ⟨rfl, bt⟩
      · have hd2 : decide ((y : Int) < 16777216) = true := by rw [h4] at hd; exact hd
        have c1 : ((k : Int) == 1) = false := by simp; omega
        have c2 : ((k : Int) == 2) = false := by simp; omega
        have c3 : ((k : Int) == 3) = true := by simp; omega
        have c4 : ((k : Int) == 4) = false := by simp; omega
        have d1 : decide ((k : Int) < 1) = false := decide_eq_false (by omega)
        have d2 : decide ((k : Int) > 4) = false := decide_eq_false (by omega)
        have d3 : decide ((p : Int) < 0) = false := decide_eq_false (by omega)
        have d4 : decide ((y : Int) ≥ 0) = true := decide_eq_true (by omega)
        have d5 : 128 - (k : Int) ≤ 127 := by omega
        have d6 : 0 ≤ 128 - (k : Int) := by omega
        clear hy hd h4
        rcases HN.out with rfl | rfl
        all_goals
          go_wp2
          go_ret
          exact ⟨rfl, bt⟩
      · have hd2 : decide ((y : Int) < 4294967296) = true := by rw [h4] at hd; exact hd
        have c1 : ((k : Int) == 1) = false := by simp; omega
        have c2 : ((k : Int) == 2) = false := by simp; omega
        have c3 : ((k : Int) == 3) = false := by simp; omega
        have c4 : ((k : Int) == 4) = true := by simp; omega
        have d1 : decide ((k : Int) < 1) = false := decide_eq_false (by omega)
        have d2 : decide ((k : Int) > 4) = false := decide_eq_false (by omega)
        have d3 : decide ((p : Int) < 0) = false := decide_eq_false (by omega)
        have d4 : decide ((y : Int) ≥ 0) = true := decide_eq_true (by omega)
        have d5 : 128 - (k : Int) ≤ 127 := by omega
        have d6 : 0 ≤ 128 - (k : Int) := by omega
        clear hy hd h4
        rcases HN.out with rfl | rfl
        all_goals
          go_wp2
          go_ret
          exact ⟨rfl, bt⟩
    · have hno : decide ((y : Int) < 0) = false := decide_eq_false (by omega)
      have hbig : (256 : Int) ^ ((k : Int)).toNat ≤ (y : Int) := by
        have h1 : 256 ^ k ≤ y := by omega
        have h2 : ((256 ^ k : Nat) : Int) ≤ (y : Int) := by omega
        simpa using h2
      have hs := shr_no (k : Int) (y : Int) (by omega) (by omega) hbig
      clear hbig
      have HF := Lib.hid hf
      have HN := Lib.hid hn
      have HY := Lib.hid hy
      have HS := Lib.hid hs
      have H0 := Lib.hid hno
      clear hf hn hy hs hno
      go_enter Try.func8, Try.ntmps8
      go_wp2_with fail
      refine (kalive_any _).mono ?_
      rintro e w1 ⟨rfl, b1⟩
      go_wp2_with fail
      refine (put_arg _ _ _ bs HN.out p k y (.inr (.inr ⟨HF.out, H0.out, HS.out⟩)) _ (hb.below b1)).mono ?_
      rintro e w2 ⟨rfl, b2⟩
      go_wp2_with fail
      refine (take_ok _ _ _ bs HN.out p k hk hp _ ((hb.below b1).below b2)).mono ?_
      rintro e w3 ⟨rfl, b3⟩
      have bt := Ext.trans (Ext.trans b1 b2) b3
      have hk4 : k = 1 ∨ k = 2 ∨ k = 3 ∨ k = 4 := by omega
      have hy := HY.out
      have hd : decide ((y : Int) < (256 : Int) ^ k) = false := decide_eq_false (pow_nlt_int k y hy)
      clear hb b1 b2 b3 HF HY HS H0
      rcases hk4 with h4 | h4 | h4 | h4
      · have hd2 : decide ((y : Int) < 256) = false := by rw [h4] at hd; exact hd
        have c1 : ((k : Int) == 1) = true := by simp; omega
        have c2 : ((k : Int) == 2) = false := by simp; omega
        have c3 : ((k : Int) == 3) = false := by simp; omega
        have c4 : ((k : Int) == 4) = false := by simp; omega
        have d1 : decide ((k : Int) < 1) = false := decide_eq_false (by omega)
        have d2 : decide ((k : Int) > 4) = false := decide_eq_false (by omega)
        have d3 : decide ((p : Int) < 0) = false := decide_eq_false (by omega)
        have d4 : decide ((y : Int) ≥ 0) = true := decide_eq_true (by omega)
        have d5 : 128 - (k : Int) ≤ 127 := by omega
        have d6 : 0 ≤ 128 - (k : Int) := by omega
        clear hy hd h4
        rcases HN.out with rfl | rfl
        all_goals
          go_wp2
          go_ret
          exact ⟨rfl, bt⟩
      · have hd2 : decide ((y : Int) < 65536) = false := by rw [h4] at hd; exact hd
        have c1 : ((k : Int) == 1) = false := by simp; omega
        have c2 : ((k : Int) == 2) = true := by simp; omega
        have c3 : ((k : Int) == 3) = false := by simp; omega
        have c4 : ((k : Int) == 4) = false := by simp; omega
        have d1 : decide ((k : Int) < 1) = false := decide_eq_false (by omega)
        have d2 : decide ((k : Int) > 4) = false := decide_eq_false (by omega)
        have d3 : decide ((p : Int) < 0) = false := decide_eq_false (by omega)
        have d4 : decide ((y : Int) ≥ 0) = true := decide_eq_true (by omega)
        have d5 : 128 - (k : Int) ≤ 127 := by omega
        have d6 : 0 ≤ 128 - (k : Int) := by omega
        clear hy hd h4
        rcases HN.out with rfl | rfl
        all_goals
          go_wp2
          go_ret
          exact ⟨rfl, bt⟩
      · have hd2 : decide ((y : Int) < 16777216) = false := by rw [h4] at hd; exact hd
        have c1 : ((k : Int) == 1) = false := by simp; omega
        have c2 : ((k : Int) == 2) = false := by simp; omega
        have c3 : ((k : Int) == 3) = true := by simp; omega
        have c4 : ((k : Int) == 4) = false := by simp; omega
        have d1 : decide ((k : Int) < 1) = false := decide_eq_false (by omega)
        have d2 : decide ((k : Int) > 4) = false := decide_eq_false (by omega)
        have d3 : decide ((p : Int) < 0) = false := decide_eq_false (by omega)
        have d4 : decide ((y : Int) ≥ 0) = true := decide_eq_true (by omega)
        have d5 : 128 - (k : Int) ≤ 127 := by omega
        have d6 : 0 ≤ 128 - (k : Int) := by omega
        clear hy hd h4
        rcases HN.out with rfl | rfl
        all_goals
          go_wp2
          go_ret
          exact ⟨rfl, bt⟩
      · have hd2 : decide ((y : Int) < 4294967296) = false := by rw [h4] at hd; exact hd
        have c1 : ((k : Int) == 1) = false := by simp; omega
        have c2 : ((k : Int) == 2) = false := by simp; omega
        have c3 : ((k : Int) == 3) = false := by simp; omega
        have c4 : ((k : Int) == 4) = true := by simp; omega
        have d1 : decide ((k : Int) < 1) = false := decide_eq_false (by omega)
        have d2 : decide ((k : Int) > 4) = false := decide_eq_false (by omega)
        have d3 : decide ((p : Int) < 0) = false := decide_eq_false (by omega)
        have d4 : decide ((y : Int) ≥ 0) = true := decide_eq_true (by omega)
        have d5 : 128 - (k : Int) ≤ 127 := by omega
        have d6 : 0 ≤ 128 - (k : Int) := by omega
        clear hy hd h4
        rcases HN.out with rfl | rfl
        all_goals
          go_wp2
          go_ret
          exact ⟨rfl, bt⟩

theorem packBounds_walk' (w : World) (A : Option Addr) (n c : Nat) (bs : List UInt8) (hb : Bs w A n bs) (p k x : Int) :
    Calls Try.prog 8 #[.slice A n c, .int .i64 p, .int .i64 k, .int .i64 x] w fun e w' => e = .returned (.bool true) ∧ Below w.heap.size w w' := by
  by_cases hn : n = 0 ∨ n = 128
  · by_cases hf : Fits p k
    · unfold Fits at hf
      obtain ⟨q, rfl⟩ := Int.eq_ofNat_of_zero_le (show 0 ≤ p by omega)
      obtain ⟨m, rfl⟩ := Int.eq_ofNat_of_zero_le (show 0 ≤ k by omega)
      exact bounds_fit w A n c bs hn q m x (by omega) (by omega) hb
    · exact bounds_unfit w A n c bs hn p k x hf hb
  · by_cases hm : n ≤ 1000
    · exact bounds_text w A n c p k x (by omega) (by omega) hm
    · exact bounds_many w A n c p k x (by omega)
theorem packBounds_walk (w : World) (v0 : Value) (bs : (Ty.sl .byte).T) (h0 : Reads w (.sl .byte) bs [v0]) (v1 : Value) (p : Ty.int.T) (h1 : Reads w .int p [v1]) (v2 : Value) (k : Ty.int.T) (h2 : Reads w .int k [v2]) (v3 : Value) (x : Ty.int.T) (h3 : Reads w .int x [v3]) :
    Calls Try.prog 8 #[v0, v1, v2, v3] w fun e w' => e = .returned (.bool true) ∧ Below w.heap.size w w' := by
  obtain ⟨A, c, rfl, _, _, hb⟩ := one_bytes h0
  obtain ⟨rfl, _⟩ := one_int h1
  obtain ⟨rfl, _⟩ := one_int h2
  obtain ⟨rfl, _⟩ := one_int h3
  exact packBounds_walk' w A _ c bs hb p k x
end Go.Proofs.Ythacmidffcmneaa
