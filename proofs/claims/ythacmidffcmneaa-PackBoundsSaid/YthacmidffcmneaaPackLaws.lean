/- The statements of layer 2 (pack): PackNames, PackBounds: their walks. -/
import Derived.Test.YthacmidffcmneaaPack2
namespace Go.Proofs.Ythacmidffcmneaa
open Go.RowKit

theorem Bs.takeB {w : World} {A : Option Addr} {n : Nat} {bs : List UInt8} (h : Bs w A n bs) (k : Nat) (hk : k ≤ n) : Bs w A k (bs.take k) := by
  refine ⟨by rw [List.length_take, h.1]; omega, ?_⟩
  rcases h.2 with h0 | ⟨b, off, hA, hc⟩
  · exact .inl (by rw [List.map_take, h0, List.take_nil])
  · refine .inr ⟨b, off, hA, fun j hj => ?_⟩
    have hj2 : j < (bs.map byteV).length := by simp at hj ⊢; omega
    rw [hc j hj2, List.map_take, List.getElem?_take, if_pos (by simp at hj; omega)]

/-- numbers put and taken, as this layer has them: what 'alive' looks at -/
theorem alive_take : takeN (wholeL (putL (wholeL []) 1 2 258)) 1 2 = 258 := by decide
theorem alive_bytes : (putL (wholeL []) 1 2 258).take 4 = [0, 2, 1, 0] := by decide
theorem fine_start : (2 : Nat) = 2 := rfl

theorem kalive_any (w : World) : Calls Try.prog 11 #[] w fun e w' => e = .returned (.bool true) ∧ Below w.heap.size w w' := by
  go_enter Try.func11, Try.ntmps11
  go_wp2_with fail
  refine (put_ok none 0 0 [] (.inl rfl) 1 2 258 ⟨by decide, by decide⟩ (by decide) (by decide) _ (Bs.nil _ _)).mono ?_
  rintro e w1 ⟨g, rfl, hg, bx, b1⟩
  have hbs := bx.bs
  have hlt := bx.lt
  clear bx
  go_wp2_with fail
  refine (take_ok (some ⟨g, 0, none⟩) 128 128 _ (.inr rfl) 1 2 ⟨by decide, by decide⟩ (by decide) _ hbs).mono ?_
  rintro e w2 ⟨he, b2⟩
  rw [alive_take] at he
  subst he
  have h4 := (hbs.below b2).takeB 4 (by decide)
  rw [alive_bytes] at h4
  have hstr := run_string_bs (P := Try.prog) 128 22 9 5 Try.underlying22 Try.underlying5 Try.underlying9 h4
  have hbw := Ext.trans b1 b2
  clear h4 hbs b1 b2
  go_wp2
  go_ret
  exact ⟨rfl, hbw⟩

theorem zero_take : takeN (wholeL []) 5 4 = 0 := by decide
set_option maxRecDepth 100000 in
theorem packNames_walk (w : World) : Calls Try.prog 3 #[] w fun e w' => e = .returned (.bool true) ∧ Below w.heap.size w w' := by
  go_enter Try.func3, Try.ntmps3
  go_wp2_with fail
  refine (put_arg none 0 0 [] (.inl rfl) 0 1 256 (.inr (.inr ⟨by decide, by decide, by decide⟩)) _ (Bs.nil _ _)).mono ?_
  rintro e w1 ⟨rfl, b1⟩
  go_wp2_with fail
  refine (put_arg none 0 0 [] (.inl rfl) 127 2 0 (.inl (by decide)) _ (Bs.nil _ _)).mono ?_
  rintro e w2 ⟨rfl, b2⟩
  go_wp2_with fail
  refine (put_arg none 0 0 [] (.inl rfl) 0 5 0 (.inl (by decide)) _ (Bs.nil _ _)).mono ?_
  rintro e w3 ⟨rfl, b3⟩
  go_wp2_with fail
  refine (put_arg none 0 0 [] (.inl rfl) (-1) 1 0 (.inl (by decide)) _ (Bs.nil _ _)).mono ?_
  rintro e w4 ⟨rfl, b4⟩
  go_wp2_with (go_at_call 9; refine (put_text _ 1 _ 0 1 0 (by decide) (by decide) _).mono ?_; rintro e w5 ⟨rfl, b5⟩)
  go_wp2_with fail
  refine (take_ok none 0 0 [] (.inl rfl) 5 4 ⟨by decide, by decide⟩ (by decide) _ (Bs.nil _ _)).mono ?_
  rintro e w6 ⟨he, b6⟩
  rw [zero_take] at he
  subst he
  go_wp2_with (go_at_call 11; refine (kalive_any _).mono ?_; rintro e w7 ⟨rfl, b7⟩)
  go_ret
  exact ⟨rfl, Ext.trans (Ext.trans (Ext.trans (Ext.alloc (Ext.trans (Ext.trans (Ext.trans b1 b2) b3) b4) _) b5) b6) b7⟩

/-! ### bounds -/
theorem pow_lt_int (k y : Nat) (h : y < 256 ^ k) : (y : Int) < (256 : Int) ^ k := by
  have h1 : (y : Int) < ((256 ^ k : Nat) : Int) := by omega
  simpa using h1
theorem pow_nlt_int (k y : Nat) (h : ¬ y < 256 ^ k) : ¬ (y : Int) < (256 : Int) ^ k := by
  have h1 : ¬ (y : Int) < ((256 ^ k : Nat) : Int) := by omega
  simpa using h1
theorem bounds_text (w : World) (A : Option Addr) (n c : Nat) (p k x : Int) (h0 : n ≠ 0) (h1 : n ≠ 128) (hn : n ≤ 1000) :
    Calls Try.prog 8 #[.slice A n c, .int .i64 p, .int .i64 k, .int .i64 x] w fun e w' => e = .returned (.bool true) ∧ Below w.heap.size w w' := by
  have hx0 : ((n : Int) != 0) = true := by simp; omega
  have hx1 : ((n : Int) != 128) = true := by simp; omega
  go_enter Try.func8, Try.ntmps8
  go_wp2_with fail
  refine (kalive_any _).mono ?_
  rintro e w1 ⟨rfl, b1⟩
  go_wp2_with fail
  refine (put_text _ _ _ _ _ _ h0 h1 _).mono ?_
  rintro e w2 ⟨rfl, b2⟩
  go_wp2_with fail
  refine (take_text _ _ _ _ _ h0 h1 _).mono ?_
  rintro e w3 ⟨rfl, b3⟩
  go_wp2
  go_ret
  exact ⟨rfl, Ext.trans (Ext.trans b1 b2) b3⟩
theorem bounds_many (w : World) (A : Option Addr) (n c : Nat) (p k x : Int) (hn : 1000 < n) :
    Calls Try.prog 8 #[.slice A n c, .int .i64 p, .int .i64 k, .int .i64 x] w fun e w' => e = .returned (.bool true) ∧ Below w.heap.size w w' := by
  go_enter Try.func8, Try.ntmps8
  go_wp2_with fail
  refine (kalive_any _).mono ?_
  rintro e w1 ⟨rfl, b1⟩
  go_wp2
  go_ret
  exact ⟨rfl, b1⟩
theorem bounds_unfit (w : World) (A : Option Addr) (n c : Nat) (bs : List UInt8) (hn : n = 0 ∨ n = 128) (p k x : Int) (hf : ¬ Fits p k) (hb : Bs w A n bs) :
    Calls Try.prog 8 #[.slice A n c, .int .i64 p, .int .i64 k, .int .i64 x] w fun e w' => e = .returned (.bool true) ∧ Below w.heap.size w w' := by
  have hxx : ((n : Int) != 0 && (n : Int) != 128) = false := by rcases hn with rfl | rfl <;> rfl
  have hcase : k < 1 ∨ (1 ≤ k ∧ 4 < k) ∨ (1 ≤ k ∧ k ≤ 4 ∧ p < 0) ∨ (1 ≤ k ∧ k ≤ 4 ∧ 0 ≤ p ∧ decide (p > 128 - k) = true ∧ 128 - k ≤ 127 ∧ 0 ≤ 128 - k) := by unfold Fits at hf; simp only [decide_eq_true_eq]; omega
  have HF := Lib.hid hf
  have HN := Lib.hid hn
  clear hf hn
  have hle : n ≤ 128 := by rcases HN.out with rfl | rfl <;> omega
  go_enter Try.func8, Try.ntmps8
  go_wp2_with fail
  refine (kalive_any _).mono ?_
  rintro e w1 ⟨rfl, b1⟩
  go_wp2_with fail
  refine (put_arg _ _ _ bs HN.out _ _ _ (.inl HF.out) _ (hb.below b1)).mono ?_
  rintro e w2 ⟨rfl, b2⟩
  go_wp2_with fail
  refine (take_arg _ _ _ bs HN.out _ _ HF.out _ ((hb.below b1).below b2)).mono ?_
  rintro e w3 ⟨rfl, b3⟩
  have bt := Ext.trans (Ext.trans b1 b2) b3
  clear hb b1 b2 b3
  rcases HN.out with rfl | rfl
  all_goals
    rcases hcase with h | ⟨h, h2⟩ | ⟨h, h2, h3⟩ | ⟨h, h2, h3, h4, h5, h6⟩
    all_goals
      go_wp2
      go_ret
      exact ⟨rfl, bt⟩

end Go.Proofs.Ythacmidffcmneaa
