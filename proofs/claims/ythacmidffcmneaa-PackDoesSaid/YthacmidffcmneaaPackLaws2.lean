/- The statements of layer 2 (pack): PackBytes, PackApart: their walks. -/
import Derived.Test.YthacmidffcmneaaPackLaws
import Derived.Test.YthacmidffcmneaaPackPlain
namespace Go.Proofs.Ythacmidffcmneaa
open Go.RowKit

theorem bytes_many (w : World) (A : Option Addr) (n c : Nat) (p k x : Int) (hn : 1000 < n) :
    Calls Try.prog 7 #[.slice A n c, .int .i64 p, .int .i64 k, .int .i64 x] w fun e w' => e = .returned (.bool true) ∧ Below w.heap.size w w' := by
  go_enter Try.func7, Try.ntmps7
  go_wp2_with fail
  refine (kalive_any _).mono ?_
  rintro e w1 ⟨rfl, b1⟩
  go_wp2
  go_ret
  exact ⟨rfl, b1⟩
theorem bytes_text (w : World) (A : Option Addr) (n c : Nat) (p k x : Int) (h0 : n ≠ 0) (h1 : n ≠ 128) (hn : n ≤ 1000) :
    Calls Try.prog 7 #[.slice A n c, .int .i64 p, .int .i64 k, .int .i64 x] w fun e w' => e = .returned (.bool true) ∧ Below w.heap.size w w' := by
  go_enter Try.func7, Try.ntmps7
  go_wp2_with fail
  refine (kalive_any _).mono ?_
  rintro e w1 ⟨rfl, b1⟩
  go_wp2_with fail
  refine (put_text _ _ _ _ _ _ h0 h1 _).mono ?_
  rintro e w2 ⟨rfl, b2⟩
  go_wp2
  go_ret
  exact ⟨rfl, Ext.trans b1 b2⟩
/-- what Put refuses of a block -/
def Refused (p k x : Int) : Prop := ¬ Fits p k ∨ (Fits p k ∧ x < 0) ∨ (Fits p k ∧ decide (x < 0) = false ∧ (x / 2 ^ min (8 * k).toNat 64 != 0) = true)
theorem refused_or (p k x : Int) : Refused p k x ∨ ∃ q m y : Nat, p = q ∧ k = m ∧ x = y ∧ (1 ≤ m ∧ m ≤ 4) ∧ q + m ≤ 128 ∧ y < 256 ^ m := by
  unfold Refused
  by_cases hf : Fits p k
  · have hf' := hf
    unfold Fits at hf'
    by_cases hx : x < 0
    · exact .inl (.inr (.inl ⟨hf, hx⟩))
    · obtain ⟨q, rfl⟩ := Int.eq_ofNat_of_zero_le (show 0 ≤ p by omega)
      obtain ⟨m, rfl⟩ := Int.eq_ofNat_of_zero_le (show 0 ≤ k by omega)
      obtain ⟨y, rfl⟩ := Int.eq_ofNat_of_zero_le (show 0 ≤ x by omega)
      by_cases hy : y < 256 ^ m
      · exact .inr ⟨q, m, y, rfl, rfl, rfl, by omega, by omega, hy⟩
      · refine .inl (.inr (.inr ⟨hf, decide_eq_false (by omega), shr_no _ _ (by omega) (by omega) ?_⟩))
        have h2 : ((256 ^ m : Nat) : Int) ≤ (y : Int) := by omega
        simpa using h2
  · exact .inl (.inl hf)
theorem bytes_arg (w : World) (A : Option Addr) (n c : Nat) (bs : List UInt8) (hn : n = 0 ∨ n = 128) (p k x : Int) (hr : Refused p k x) (hb : Bs w A n bs) :
    Calls Try.prog 7 #[.slice A n c, .int .i64 p, .int .i64 k, .int .i64 x] w fun e w' => e = .returned (.bool true) ∧ Below w.heap.size w w' := by
  have HR := Lib.hid hr
  have HN := Lib.hid hn
  have hle : n ≤ 128 := by omega
  clear hr hn
  go_enter Try.func7, Try.ntmps7
  go_wp2_with fail
  refine (kalive_any _).mono ?_
  rintro e w1 ⟨rfl, b1⟩
  go_wp2_with fail
  refine (put_arg _ _ _ bs HN.out _ _ _ HR.out _ (hb.below b1)).mono ?_
  rintro e w2 ⟨rfl, b2⟩
  go_wp2
  go_ret
  exact ⟨rfl, Ext.trans b1 b2⟩

theorem takeN_single (l : List UInt8) (i : Nat) : takeN l i 1 = (l.getD i 0).toNat := by simp [takeN]

set_option maxRecDepth 100000 in
theorem bytes_ok (w : World) (A : Option Addr) (n c : Nat) (bs : List UInt8) (hn : n = 0 ∨ n = 128) (p k x : Nat) (hk : 1 ≤ k ∧ k ≤ 4) (hp : p + k ≤ 128) (hx : x < 256 ^ k) (hb : Bs w A n bs) :
    Calls Try.prog 7 #[.slice A n c, .int .i64 p, .int .i64 k, .int .i64 x] w fun e w' => e = .returned (.bool true) ∧ Below w.heap.size w w' := by
  have hlen := wholeL_len hb.1 hn
  have HX := Lib.hid hx
  have HN := Lib.hid hn
  have hle : n ≤ 128 := by omega
  clear hn hx
  go_enter Try.func7, Try.ntmps7
  go_wp2_with fail
  refine (kalive_any _).mono ?_
  rintro e w1 ⟨rfl, b1⟩
  go_wp2_with fail
  refine (put_ok _ _ _ bs HN.out p k x hk hp HX.out _ (hb.below b1)).mono ?_
  rintro e w2 ⟨g, rfl, hg, bx, b2⟩
  have bt := Ext.trans b1 b2
  have BX := Lib.hid bx
  have BT := Lib.hid bt
  have hg1 : w.heap.size ≤ g := Nat.le_trans b1.size hg
  clear bx bt b1 b2 hb hg
  have hglt := BX.out.lt
  go_wp2_with fail
  go_loopw [3, 12] (fun r i wr => ∃ j : Nat, j ≤ k ∧ i = .int .i64 j ∧ r = .int .i64 ((x / 256 ^ j : Nat) : Int) ∧ Below w2.heap.size w2 wr) (fun _ i _ => k - (intOf i).toNat)
  case atStart => exact ⟨0, Nat.zero_le _, rfl, by simp, Below.refl _ _⟩
  case round =>
    obtain ⟨j, hj, rfl, rfl, bw⟩ := hrel
    have hlt2 := BX.out.below bw hglt
    by_cases hlt : j < k
    · have hbs := hlt2.bs
      have hbyte : takeN (wholeL (putL (wholeL bs) p k x)) (p + j) 1 = x / 256 ^ j % 256 := by
        rw [wholeL_full (by rw [putL_len]; exact hlen), takeN_single, getD_putL _ _ _ _ (by omega), if_pos (by omega), show p + j - p = j by omega]
        simp
      have hdiv : x / 256 ^ j / 256 = x / 256 ^ (j + 1) := by rw [Nat.div_div_eq_div_mul, Nat.pow_succ]
      have hvm : ((x / 256 ^ j : Nat) : Int) % 256 = ((x / 256 ^ j % 256 : Nat) : Int) := by omega
      have hvd : ((x / 256 ^ j : Nat) : Int) / 256 = ((x / 256 ^ (j + 1) : Nat) : Int) := by rw [← hdiv]; omega
      have HV := Lib.hid hvd
      generalize x / 256 ^ j % 256 = r at hbyte hvm
      generalize hq : x / 256 ^ j = q at hvm hvd HV ⊢
      generalize x / 256 ^ (j + 1) = q2 at hvd
      have hq9 : (q : Int) < 4294967296 := by
        have h1 : x / 256 ^ j ≤ x := Nat.div_le_self _ _
        rw [hq] at h1
        have h2 : 256 ^ k ≤ 256 ^ 4 := Nat.pow_le_pow_right (by decide) hk.2
        have h3 := HX.out
        omega
      clear hlt2 hdiv
      go_wp2_with fail
      refine (take_ok (some ⟨g, 0, none⟩) 128 128 _ (.inr rfl) (p + j) 1 ⟨by decide, by decide⟩ (by omega) _ hbs).mono ?_
      rintro e w4 ⟨he, b4⟩
      rw [hbyte] at he
      subst he
      clear hbyte hbs
      go_wp2
      exact ⟨⟨j + 1, by omega, by go_num, by rw [← hvd, HV.out], Ext.trans bw b4⟩, by simp [intOf]; omega⟩
    · have hj' : j = k := by omega
      subst hj'
      have hz : x / 256 ^ j = 0 := Nat.div_eq_of_lt HX.out
      rw [hz]
      clear hz
      go_wp2
      go_ret
      exact ⟨rfl, Ext.trans BT.out bw⟩

theorem packBytes_walk' (w : World) (A : Option Addr) (n c : Nat) (bs : List UInt8) (hb : Bs w A n bs) (p k x : Int) :
    Calls Try.prog 7 #[.slice A n c, .int .i64 p, .int .i64 k, .int .i64 x] w fun e w' => e = .returned (.bool true) ∧ Below w.heap.size w w' := by
  by_cases hn : n = 0 ∨ n = 128
  · rcases refused_or p k x with hr | ⟨q, m, y, rfl, rfl, rfl, hk, hp, hy⟩
    · exact bytes_arg w A n c bs hn p k x hr hb
    · exact bytes_ok w A n c bs hn q m y hk hp hy hb
  · by_cases hm : n ≤ 1000
    · exact bytes_text w A n c p k x (by omega) (by omega) hm
    · exact bytes_many w A n c p k x (by omega)
theorem packBytes_walk (w : World) (v0 : Value) (bs : (Ty.sl .byte).T) (h0 : Reads w (.sl .byte) bs [v0]) (v1 : Value) (p : Ty.int.T) (h1 : Reads w .int p [v1]) (v2 : Value) (k : Ty.int.T) (h2 : Reads w .int k [v2]) (v3 : Value) (x : Ty.int.T) (h3 : Reads w .int x [v3]) :
    Calls Try.prog 7 #[v0, v1, v2, v3] w fun e w' => e = .returned (.bool true) ∧ Below w.heap.size w w' := by
  obtain ⟨A, c, rfl, _, _, hb⟩ := one_bytes h0
  obtain ⟨rfl, _⟩ := one_int h1
  obtain ⟨rfl, _⟩ := one_int h2
  obtain ⟨rfl, _⟩ := one_int h3
  exact packBytes_walk' w A _ c bs hb p k x
end Go.Proofs.Ythacmidffcmneaa
