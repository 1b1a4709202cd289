/- Layer 30 (model): the reference: whether marks may be. -/
import Derived.Test.YtclbihcggjjgaaaModel4
import Derived.Test.YtclbihcggjjgaaaSplitRef2
namespace Go.Proofs.Ytclbihcggjjgaaa
open Go Go.RowKit
set_option linter.unusedSimpArgs false
set_option linter.unusedVariables false

/-- marks that may be -/
def MarkOk (ms : List Int) (ys : List (List (List UInt8))) (i : Nat) : Prop := ∀ (h : i < ms.length) (h' : i < ys.length), 0 ≤ ms[i] ∧ ms[i] < ((ys[i]).length : Int)
def MarksOk (k : Int) (ms : List Int) (ys : List (List (List UInt8))) : Prop := if k = 4 then ms.length = ys.length ∧ ∀ i, MarkOk ms ys i else ms.length = 0

/-- a call tells yes or no -/
def YesNo (P : Prop) (e : Ending) : Prop := ∃ b, e = .returned (.bool b) ∧ (b = true ↔ P)
theorem YesNo.yes {P : Prop} (h : P) : YesNo P (.returned (.bool true)) := ⟨true, rfl, by simp [h]⟩
theorem YesNo.no {P : Prop} (h : ¬ P) : YesNo P (.returned (.bool false)) := ⟨false, rfl, by simp [h]⟩
theorem YesNo.of {P : Prop} {b : Bool} (h : b = true ↔ P) : YesNo P (.returned (.bool b)) := ⟨b, rfl, h⟩

set_option maxRecDepth 100000 in
set_option maxHeartbeats 2000000 in
theorem rmarks_any (S S' : Nat → Prop) (ys : List (List (List UInt8))) (A : Option Addr) (c : Nat) (B : Option Addr) (m d : Nat) (nu k a y : Int) (Ab : Option Addr) (nb cb : Nat) (ms : List Int) (Am : Option Addr) (cm : Nat) (w : World) (hy : RdIn w S (.sl (.sl (.sl .byte))) ys [.slice A ys.length c]) (hm : RdIn w S' (.sl .int) ms [.slice Am ms.length cm]) :
    Calls Try.prog 70 #[.agg #[.slice A ys.length c, .slice B m d], .agg #[.int .i64 nu, .int .u8 k, .int .i64 a, .int .i64 y, .slice Ab nb cb, .slice Am ms.length cm]] w fun e w' => YesNo (MarksOk k ms ys) e ∧ Below w.heap.size w w' := by
  have P0 := BoxOf.alloc (BoxOf.new w #[.slice A ys.length c, .slice B m d] 28) (.cells #[.int .i64 nu, .int .u8 k, .int .i64 a, .int .i64 y, .slice Ab nb cb, .slice Am ms.length cm] 64)
  have G0 := BoxOf.new' (w.alloc (.cells #[.slice A ys.length c, .slice B m d] 28)) (w.heap.size + 1) #[.int .i64 nu, .int .u8 k, .int .i64 a, .int .i64 y, .slice Ab nb cb, .slice Am ms.length cm] 64 (by simp)
  have t0 := Ext.alloc (Ext.alloc (Below.refl w.heap.size w) (.cells #[.slice A ys.length c, .slice B m d] 28)) (.cells #[.int .i64 nu, .int .u8 k, .int .i64 a, .int .i64 y, .slice Ab nb cb, .slice Am ms.length cm] 64)
  have HY := Lib.hid (hy.below t0)
  have HM := Lib.hid (hm.below t0)
  have HYM := Lib.hid (may_max hy)
  have HMM := Lib.hid (mark_max hm)
  clear hy hm
  go_enter Try.func70, Try.ntmps70
  go_upto_region 1 with fail
  generalize (w.alloc (.cells #[.slice A ys.length c, .slice B m d] 28)).alloc (.cells #[.int .i64 nu, .int .u8 k, .int .i64 a, .int .i64 y, .slice Ab nb cb, .slice Am ms.length cm] 64) = W at *
  have x0 := P0.cell
  have y0 := G0.cell
  by_cases hk : k = 4
  · have hk' : (k != 4) = false := by simp [hk]
    have HK : Hid (MarksOk k ms ys ↔ (ms.length = ys.length ∧ ∀ i, MarkOk ms ys i)) := by show _ ↔ _; unfold MarksOk; rw [if_pos hk]
    clear hk
    by_cases hl : ms.length = ys.length
    · have hl' : ((ms.length : Int) != (ys.length : Int)) = false := by simp [hl]
      have HL := Lib.hid hl
      clear hl
      go_wp2
      clear hl' hk'
      go_loopw [5] (fun i wr => ∃ (j : Nat), j ≤ ms.length ∧ i = .int .i64 j ∧ Below W.heap.size W wr ∧ Hid (∀ i, i < j → MarkOk ms ys i)) (fun i _ => ms.length - (intOf i).toNat)
      case atStart => exact ⟨0, by omega, rfl, Below.refl _ _, fun i h => absurd h (Nat.not_lt_zero _)⟩
      case round =>
        obtain ⟨j, hj, rfl, b1, HA⟩ := hrel
        clear x0 y0
        have P1 := P0.next b1
        have G1 := G0.next b1
        have x1 := P1.cell
        have y1 := G1.cell
        by_cases hlt : j < ms.length
        · have hlt2 : j < ys.length := by have := HL.out; omega
          obtain ⟨b4, off4, rfl, q4, i4⟩ := mark_at (HM.out.below b1) hlt
          obtain ⟨b, off, A2, c2, rfl, q2, r2⟩ := may_at (HY.out.below b1) hlt2
          have HMK : Hid (MarkOk ms ys j ↔ (0 ≤ ms[j] ∧ ms[j] < ((ys[j]).length : Int))) := ⟨fun h => h hlt hlt2, fun h _ _ => h⟩
          generalize ms[j] = z at *
          generalize ys[j] = zs at *
          have HWJ := next_wrap HMM.out hlt
          have HLJ := Lib.hid hlt
          have HLY := Lib.hid hlt2
          clear r2 i4
          have b3 := Ext.trans t0 b1
          rcases Bool.eq_false_or_eq_true (decide (z < 0)) with e1 | e1
          · have hno : ¬ MarksOk k ms ys := fun h => by
              have h2 := HMK.out.1 ((HK.out.1 h).2 j)
              have := of_decide_eq_true e1
              omega
            have HNO := Lib.hid hno
            clear hno
            go_wp2
            go_quiet (fail)
            go_wp2
            go_ret
            exact ⟨YesNo.no HNO.out, below_drewN' b3 _⟩
          · rcases Bool.eq_false_or_eq_true (decide ((zs.length : Int) ≤ z)) with e2 | e2
            · have hno : ¬ MarksOk k ms ys := fun h => by
                have h2 := HMK.out.1 ((HK.out.1 h).2 j)
                have := of_decide_eq_true e2
                omega
              have HNO := Lib.hid hno
              clear hno
              go_wp2
              go_quiet (fail)
              go_wp2
              go_ret
              exact ⟨YesNo.no HNO.out, below_drewN' b3 _⟩
            · have HA' : Hid (∀ i, i < j + 1 → MarkOk ms ys i) := by
                intro i hi
                by_cases h : i = j
                · subst h
                  refine HMK.out.2 ⟨?_, ?_⟩
                  · have := of_decide_eq_false e1; omega
                  · have := of_decide_eq_false e2; omega
                · exact HA.out i (by omega)
              go_wp2
              go_quiet (fail)
              go_wp2
              go_roundw
              case rel => exact ⟨j + 1, HLJ.out, by first | exact round_same HWJ | go_num, below_drewN' b1 _, HA'⟩
              case measure => first | exact round_less HWJ HLJ.out | (have h := HLJ.out; simp [intOf]; omega)
        · have b3 := Ext.trans t0 b1
          go_wp2
          go_ret
          exact ⟨YesNo.yes (HK.out.2 ⟨HL.out, fun i => by by_cases h : i < j; exact HA.out i h; exact fun h' => absurd h' (by omega)⟩), b3⟩
    · have hl' : ((ms.length : Int) != (ys.length : Int)) = true := by simp; omega
      have HL := Lib.hid hl
      clear hl
      go_wp2
      go_ret
      exact ⟨YesNo.no fun h => HL.out (HK.out.1 h).1, t0⟩
  · have hk' : (k != 4) = true := by simp [hk]
    have HK : Hid (MarksOk k ms ys ↔ ms.length = 0) := by show _ ↔ _; unfold MarksOk; rw [if_neg hk]
    clear hk
    go_wp2
    go_ret
    exact ⟨YesNo.of (by rw [HK.out]; simp), t0⟩
end Go.Proofs.Ytclbihcggjjgaaa
