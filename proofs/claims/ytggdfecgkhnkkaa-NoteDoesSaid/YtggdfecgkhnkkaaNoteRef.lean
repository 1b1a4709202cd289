/- Layer 11 (note): the reference: what may be. -/
import Derived.Test.YtggdfecgkhnkkaaNotePlain2
import Derived.Test.YtggdfecgkhnkkaaNoteSame
import Derived.Test.YtggdfecgkhnkkaaNoteRead
import Derived.Test.YtggdfecgkhnkkaaNoteSlots
import Derived.Deep.DeepCutAuto
namespace Go.Proofs.Ytggdfecgkhnkkaa
open Go Go.RowKit
set_option linter.unusedSimpArgs false
set_option linter.unusedVariables false

theorem nret_bool {a b : Bool} (h : a = b) : Ending.returned (.bool a) = .returned (.bool b) := by rw [h]
def okR (k p s : Nat) : Bool := (decide (k = 0) || decide (p < s)) && (decide (s ≤ 14) || (decide (s = 255) && !decide (k = 0)))
def slOf (rs : List NRec) (k : Nat) : Nat := (rs[k]?.map (·.sl)).getD 0
def slotsR (rs : List NRec) : Nat → Bool
  | 0 => true
  | k + 1 => slotsR rs k && okR k (slOf rs (k - 1)) (slOf rs k)
theorem slotsR_mono (rs : List NRec) : ∀ d k, slotsR rs k = false → slotsR rs (k + d) = false := by
  intro d
  induction d with
  | zero => intro k h; exact h
  | succ d ih =>
    intro k h
    show (slotsR rs (k + d) && _) = false
    rw [ih k h]; rfl
theorem slotsK_R (rs : List NRec) (h8 : ∀ r ∈ rs, r.sl < 256) : ∀ k, k ≤ rs.length → slotsK rs k = true → slotsR rs k = true := by
  intro k
  induction k with
  | zero => intro _ _; rfl
  | succ k ih =>
    intro hk h
    have h2 : (slotsK rs k && okRec rs.length k (lastOf rs k) (slOf rs k)) = true := h
    rw [Bool.and_eq_true] at h2
    show (slotsR rs k && okR k (slOf rs (k - 1)) (slOf rs k)) = true
    rw [ih (by omega) h2.1, Bool.true_and]
    have h3 := h2.2
    have hl : k ≠ 0 → lastOf rs k = (slOf rs (k - 1) : Int) := by
      intro h0
      obtain ⟨j, rfl⟩ : ∃ j, k = j + 1 := ⟨k - 1, by omega⟩
      rfl
    unfold okRec at h3
    unfold okR
    simp only [Bool.and_eq_true, Bool.or_eq_true, decide_eq_true_eq, beq_iff_eq, Bool.not_eq_true', decide_eq_false_iff_not] at h3 ⊢
    by_cases h0 : k = 0
    · omega
    · have := hl h0
      omega
theorem slotsR_K (rs : List NRec) (h8 : ∀ r ∈ rs, r.sl < 256) (hall : slotsR rs rs.length = true) : ∀ k, k ≤ rs.length → slotsK rs k = true := by
  have hpre : ∀ k, k ≤ rs.length → slotsR rs k = true := by
    intro k hk
    cases hv : slotsR rs k with
    | true => rfl
    | false =>
      have := slotsR_mono rs (rs.length - k) k hv
      rw [show k + (rs.length - k) = rs.length by omega, hall] at this
      cases this
  intro k
  induction k with
  | zero => intro _; rfl
  | succ k ih =>
    intro hk
    show (slotsK rs k && okRec rs.length k (lastOf rs k) (slOf rs k)) = true
    rw [ih (by omega), Bool.true_and]
    have h1 : (slotsR rs k && okR k (slOf rs (k - 1)) (slOf rs k)) = true := hpre (k + 1) hk
    rw [Bool.and_eq_true] at h1
    have h2 := h1.2
    have hl : k ≠ 0 → lastOf rs k = (slOf rs (k - 1) : Int) := by
      intro h0
      obtain ⟨j, rfl⟩ : ∃ j, k = j + 1 := ⟨k - 1, by omega⟩
      rfl
    have hz : k = 0 → lastOf rs k = -1 := by rintro rfl; rfl
    have hnext : k + 1 < rs.length → slOf rs k < slOf rs (k + 1) ∧ slOf rs (k + 1) < 256 := by
      intro hlt
      have h3 : (slotsR rs (k + 1) && okR (k + 1) (slOf rs (k + 1 - 1)) (slOf rs (k + 1))) = true := hpre (k + 2) (by omega)
      rw [Bool.and_eq_true] at h3
      have h4 := h3.2
      unfold okR at h4
      simp only [Bool.and_eq_true, Bool.or_eq_true, decide_eq_true_eq, Nat.add_sub_cancel] at h4
      refine ⟨by omega, ?_⟩
      have := h8 rs[k + 1] (List.getElem_mem _)
      unfold slOf
      simpa [hlt] using this
    unfold okR at h2
    unfold okRec
    simp only [Bool.and_eq_true, Bool.or_eq_true, decide_eq_true_eq, beq_iff_eq, Bool.not_eq_true', decide_eq_false_iff_not] at h2 ⊢
    by_cases h0 : k = 0
    · have := hz h0
      omega
    · have := hl h0
      by_cases hlt : k + 1 < rs.length
      · have := hnext hlt
        omega
      · omega
theorem slotsR_eq (rs : List NRec) (h8 : ∀ r ∈ rs, r.sl < 256) : slotsR rs rs.length = slotsK rs rs.length := by
  rw [Bool.eq_iff_iff]
  exact ⟨fun h => slotsR_K rs h8 h _ (Nat.le_refl _), slotsK_R rs h8 _ (Nat.le_refl _)⟩

set_option maxRecDepth 100000 in
set_option maxHeartbeats 2000000 in
theorem rslots_any (A : Option Addr) (n q : Nat) (rs : List NRec) (hn : n ≤ 1000) (h8 : ∀ r ∈ rs, r.sl < 256) (w : World) (hr : Rs w A n rs) :
    Calls Try.prog 37 #[.slice A n q] w fun e w' => e = .returned (.bool (slotsR rs rs.length)) ∧ Below w.heap.size w w' := by
  have hlen := hr.1
  have HR := Lib.hid hr
  have H8 := Lib.hid h8
  clear hr h8
  go_enter Try.func37, Try.ntmps37
  go_wp2
  go_loopw [3] (fun i wr => ∃ k : Nat, k ≤ n ∧ i = .int .i64 k ∧ slotsR rs k = true ∧ Below w.heap.size w wr) (fun i _ => n - (intOf i).toNat)
  case atStart => exact ⟨0, by omega, rfl, rfl, Below.refl _ _⟩
  case round =>
    obtain ⟨k, hk, rfl, hs, bw⟩ := hrel
    by_cases hlt : k < n
    · obtain ⟨b, off, rfl, hc⟩ := (HR.out.below bw).cells (by omega)
      have hkl : k < rs.length := by omega
      obtain ⟨q0, _, _⟩ := hc k hkl
      have hwk : wrap64 ((k : Int) + 1) = ((k + 1 : Nat) : Int) := by rw [IntWalk.wrap64_in _ (by omega)]; omega
      have hs8 := H8.out rs[k] (List.getElem_mem _)
      have e1 : slOf rs k = rs[k].sl := by unfold slOf; simp [hkl]
      have hstep : slotsR rs (k + 1) = okR k (slOf rs (k - 1)) rs[k].sl := by
        show (slotsR rs k && okR k (slOf rs (k - 1)) (slOf rs k)) = _
        rw [hs, Bool.true_and, e1]
      have HST := Lib.hid hstep
      have HK : Hid (slotsR rs (k + 1) = false → slotsR rs rs.length = false) := fun h => by
        have := slotsR_mono rs (rs.length - (k + 1)) (k + 1) h
        rwa [show k + 1 + (rs.length - (k + 1)) = rs.length by omega] at this
      rcases Nat.eq_zero_or_pos k with hk0 | hk0
      · subst hk0
        clear hc hstep e1 hs
        generalize rs[0].sl = s at *
        have q0' : wr.cell? ⟨b, off, none⟩ = some (.int .u8 (s : Int)) := by simpa using q0
        have hws : wrap64 (s : Int) = (s : Int) := IntWalk.wrap64_in _ (by omega)
        clear q0
        by_cases h14 : s ≤ 14
        · have d1 : decide ((14 : Int) < (s : Int)) = false := decide_eq_false (by omega)
          have HS1 : Hid (slotsR rs (0 + 1) = true) := by show _ = _; rw [HST.out]; unfold okR; simp [h14]
          have H14 := Lib.hid h14
          clear h14 HST HK
          go_wp2
          go_roundw
          case rel => exact ⟨1, by omega, by go_num, HS1.out, bw⟩
          case measure => simp [intOf]; omega
        · have d1 : decide ((14 : Int) < (s : Int)) = true := decide_eq_true (by omega)
          have HS1 : Hid (slotsR rs rs.length = false) := HK.out (by rw [HST.out]; unfold okR; simp [h14])
          have hc2 : ((s : Int) != 255) = true ∨ ((s : Int) != 255) = false := by cases ((s : Int) != 255) <;> simp
          clear h14 HST HK
          rcases hc2 with d2 | d2
          all_goals
            go_wp2
            go_ret
            exact ⟨nret_bool HS1.out.symm, bw⟩
      · obtain ⟨j, rfl⟩ : ∃ j, k = j + 1 := ⟨k - 1, by omega⟩
        obtain ⟨p0, _, _⟩ := hc j (by omega)
        have e2 : slOf rs (j + 1 - 1) = rs[j].sl := by unfold slOf; simp [show j < rs.length by omega]
        have hwj : wrap64 (((j + 1 : Nat) : Int) - 1) = (j : Int) := by rw [IntWalk.wrap64_in _ (by omega)]; omega
        have hwj2 : ((j : Int) + 1) - 1 = (j : Int) := by omega
        have hp8 := H8.out rs[j] (List.getElem_mem _)
        rw [e2] at HST
        clear hc hstep e1 e2 hs
        generalize rs[j + 1].sl = s at *
        generalize rs[j].sl = p at *
        have hws : wrap64 (s : Int) = (s : Int) := IntWalk.wrap64_in _ (by omega)
        have hwp : wrap64 (p : Int) = (p : Int) := IntWalk.wrap64_in _ (by omega)
        have g0 : decide ((0 : Int) < ((j + 1 : Nat) : Int)) = true := decide_eq_true (by omega)
        by_cases hps : p < s
        · have d0 : decide ((s : Int) ≤ (p : Int)) = false := decide_eq_false (by omega)
          have d0n : decide (s ≤ p) = false := decide_eq_false (by omega)
          by_cases h14 : s ≤ 14
          · have d1 : decide ((14 : Int) < (s : Int)) = false := decide_eq_false (by omega)
            have d1n : decide (14 < s) = false := decide_eq_false (by omega)
            have HS1 : Hid (slotsR rs (j + 1 + 1) = true) := by show _ = _; rw [HST.out]; unfold okR; simp [h14, hps]
            clear h14 HST HK hps
            go_wp2
            go_roundw
            case rel => exact ⟨j + 1 + 1, by omega, by go_num, HS1.out, bw⟩
            case measure => simp [intOf]; omega
          · have d1 : decide ((14 : Int) < (s : Int)) = true := decide_eq_true (by omega)
            have d1n : decide (14 < s) = true := decide_eq_true (by omega)
            by_cases h255 : s = 255
            · have d2 : ((s : Int) != 255) = false := by simp; omega
              have d3 : (((j + 1 : Nat) : Int) == 0) = false := by simp; omega
              have HS1 : Hid (slotsR rs (j + 1 + 1) = true) := by show _ = _; rw [HST.out]; unfold okR; simp [h255, show p < 255 by omega]
              clear h14 HST HK hps h255
              go_wp2
              go_roundw
              case rel => exact ⟨j + 1 + 1, by omega, by go_num, HS1.out, bw⟩
              case measure => simp [intOf]; omega
            · have d2 : ((s : Int) != 255) = true := by simp; omega
              have HS1 : Hid (slotsR rs rs.length = false) := HK.out (by rw [HST.out]; unfold okR; simp [h14, h255])
              clear h14 HST HK hps h255
              go_wp2
              go_ret
              exact ⟨nret_bool HS1.out.symm, bw⟩
        · have d0 : decide ((s : Int) ≤ (p : Int)) = true := decide_eq_true (by omega)
          have d0n : decide (s ≤ p) = true := decide_eq_true (by omega)
          have HS1 : Hid (slotsR rs rs.length = false) := HK.out (by rw [HST.out]; unfold okR; simp [hps])
          clear HST HK hps
          go_wp2
          go_ret
          exact ⟨nret_bool HS1.out.symm, bw⟩
    · have hkn : k = rs.length := by omega
      have HS1 : Hid (slotsR rs rs.length = true) := by show _ = _; rw [← hkn]; exact hs
      clear hs hkn
      go_wp2
      go_ret
      exact ⟨nret_bool HS1.out.symm, bw⟩

set_option maxRecDepth 100000 in
set_option maxHeartbeats 2000000 in
theorem rnmay_any (id age sq : Nat) (st : Int) (A : Option Addr) (n q : Nat) (rs : List NRec) (hn : n ≤ 1000) (h8 : ∀ r ∈ rs, r.sl < 256) (w : World) (hr : Rs w A n rs) :
    Calls Try.prog 27 #[.agg #[.int .u32 (id : Int), .int .u32 (age : Int), .int .u32 (sq : Int), .int .i64 st, .slice A n q]] w fun e w' => e = .returned (.bool (noteB age sq st rs)) ∧ Below w.heap.size w w' := by
  have hlen := hr.1
  have hall : (hdB age sq st n = false ∧ (age < 1 ∨ (1 ≤ age ∧ 2147483648 < age) ∨ ((1 ≤ age ∧ age ≤ 2147483648) ∧ sq < 1) ∨ ((1 ≤ age ∧ age ≤ 2147483648) ∧ 1 ≤ sq ∧ 2147483648 < sq) ∨ ((1 ≤ age ∧ age ≤ 2147483648) ∧ (1 ≤ sq ∧ sq ≤ 2147483648) ∧ st < 0) ∨ ((1 ≤ age ∧ age ≤ 2147483648) ∧ (1 ≤ sq ∧ sq ≤ 2147483648) ∧ 0 ≤ st ∧ 64 ≤ st) ∨
      ((1 ≤ age ∧ age ≤ 2147483648) ∧ (1 ≤ sq ∧ sq ≤ 2147483648) ∧ (0 ≤ st ∧ st < 64) ∧ n < 1) ∨ ((1 ≤ age ∧ age ≤ 2147483648) ∧ (1 ≤ sq ∧ sq ≤ 2147483648) ∧ (0 ≤ st ∧ st < 64) ∧ 1 ≤ n ∧ 16 < n))) ∨
      (hdB age sq st n = true ∧ (1 ≤ age ∧ age ≤ 2147483648) ∧ (1 ≤ sq ∧ sq ≤ 2147483648) ∧ (0 ≤ st ∧ st < 64) ∧ 1 ≤ n ∧ n ≤ 16) := by
    unfold hdB
    by_cases h : (1 ≤ n ∧ n ≤ 16) ∧ (1 ≤ age ∧ age ≤ 2147483648) ∧ (1 ≤ sq ∧ sq ≤ 2147483648) ∧ 0 ≤ st ∧ st < 64
    · exact .inr ⟨decide_eq_true h, h.2.1, h.2.2.1, h.2.2.2, h.1⟩
    · exact .inl ⟨decide_eq_false h, by omega⟩
  have hB : noteB age sq st rs = (hdB age sq st n && slotsR rs rs.length) := by unfold noteB; rw [slotsR_eq rs h8, hlen]
  have HB := Lib.hid hB
  have HALL := Lib.hid hall
  have HS := Lib.hid (fun W h => rslots_any A n q rs hn h8 W h)
  clear hB hall h8
  go_enter Try.func27, Try.ntmps27
  go_upto_region 1 with fail
  have A0 := BoxOf.new w #[.int .u32 (id : Int), .int .u32 (age : Int), .int .u32 (sq : Int), .int .i64 st, .slice A n q] 25
  have t0 := Ext.alloc (Below.refl w.heap.size w) (.cells #[.int .u32 (id : Int), .int .u32 (age : Int), .int .u32 (sq : Int), .int .i64 st, .slice A n q] 25)
  have hr0 := hr.alloc (.cells #[.int .u32 (id : Int), .int .u32 (age : Int), .int .u32 (sq : Int), .int .i64 st, .slice A n q] 25)
  clear hr
  generalize w.alloc (.cells #[.int .u32 (id : Int), .int .u32 (age : Int), .int .u32 (sq : Int), .int .i64 st, .slice A n q] 25) = W at *
  have x0 := A0.cell
  rcases HALL.out with ⟨e, h⟩ | ⟨e, h1, h2, h3, h4⟩
  · have EE : Hid (noteB age sq st rs = false) := by show _ = _; rw [HB.out, e]; rfl
    rcases h with h | ⟨h1, h⟩ | ⟨h1, h⟩ | ⟨h1, h2, h⟩ | ⟨h1, h2, h⟩ | ⟨h1, h2, h3, h⟩ | ⟨h1, h2, h3, h⟩ | ⟨h1, h2, h3, h4, h⟩
    all_goals
      clear HALL e HB
      try have d6 : decide (st < 64) = false := decide_eq_false (by omega)
      go_wp2
      go_ret
      exact ⟨nret_bool EE.out.symm, t0⟩
  · have EE : Hid (noteB age sq st rs = slotsR rs rs.length) := by show _ = _; rw [HB.out, e]; rfl
    obtain ⟨h11, h12⟩ := h1
    obtain ⟨h21, h22⟩ := h2
    obtain ⟨h31, h32⟩ := h3
    obtain ⟨h41, h42⟩ := h4
    clear HALL e HB
    go_wp2_with fail
    refine (HS.out _ hr0).mono ?_
    rintro e w1 ⟨rfl, b1⟩
    have t1 := Ext.trans t0 b1
    go_wp2
    go_ret
    exact ⟨nret_bool ((congrArg (slotsR rs) hlen.symm).trans EE.out.symm), t1⟩

set_option maxRecDepth 100000 in
theorem rncheck_any (id age sq : Nat) (st : Int) (A : Option Addr) (n q : Nat) (rs : List NRec) (hn : n ≤ 1000) (h8 : ∀ r ∈ rs, r.sl < 256) (E : Int) (hE : E = if noteB age sq st rs then 0 else 8) (w : World) (hr : Rs w A n rs) :
    Calls Try.prog 20 #[.agg #[.int .u32 (id : Int), .int .u32 (age : Int), .int .u32 (sq : Int), .int .i64 st, .slice A n q]] w fun e w' => e = .returned (.int .i64 E) ∧ Below w.heap.size w w' := by
  have HM := Lib.hid (fun W h => rnmay_any id age sq st A n q rs hn h8 W h)
  clear h8
  generalize noteB age sq st rs = B at *
  have hr0 := hr.alloc (.cells #[.int .u32 (id : Int), .int .u32 (age : Int), .int .u32 (sq : Int), .int .i64 st, .slice A n q] 25)
  have t0 := Ext.alloc (Below.refl w.heap.size w) (.cells #[.int .u32 (id : Int), .int .u32 (age : Int), .int .u32 (sq : Int), .int .i64 st, .slice A n q] 25)
  cases B with
  | true =>
    simp only [if_true] at hE
    subst hE
    go_enter Try.func20, Try.ntmps20
    go_wp2_with fail
    refine (HM.out _ hr0).mono ?_
    rintro e w1 ⟨rfl, b1⟩
    have t1 := Ext.trans t0 b1
    go_wp2
    go_ret
    exact ⟨rfl, t1⟩
  | false =>
    have hE' : E = 8 := hE
    subst hE'
    go_enter Try.func20, Try.ntmps20
    go_wp2_with fail
    refine (HM.out _ hr0).mono ?_
    rintro e w1 ⟨rfl, b1⟩
    have t1 := Ext.trans t0 b1
    go_wp2
    go_ret
    exact ⟨rfl, t1⟩

set_option maxRecDepth 100000 in
set_option maxHeartbeats 1000000 in
theorem rntwin_any (id age sq : Nat) (st : Int) (A : Option Addr) (n q : Nat) (rs : List NRec) (hn : n ≤ 1000) (w : World) (hr : Rs w A n rs) :
    Calls Try.prog 16 #[.agg #[.int .u32 (id : Int), .int .u32 (age : Int), .int .u32 (sq : Int), .int .i64 st, .slice A n q]] w fun e w' => ∃ A' c', e = .returned (.agg #[.int .u32 (id : Int), .int .u32 (age : Int), .int .u32 (sq : Int), .int .i64 st, .slice A' n c']) ∧ Rs w' A' n rs ∧ Below w.heap.size w w' := by
  have hlen := hr.1
  have A0 := BoxOf.alloc (BoxOf.new w #[.int .u32 (id : Int), .int .u32 (age : Int), .int .u32 (sq : Int), .int .i64 st, .slice A n q] 25) (.cells #[.int .u32 0, .int .u32 0, .int .u32 0, .int .i64 0, .slice none 0 0] 25)
  have Z0 := BoxOf.new' (w.alloc (.cells #[.int .u32 (id : Int), .int .u32 (age : Int), .int .u32 (sq : Int), .int .i64 st, .slice A n q] 25)) (w.heap.size + 1) #[.int .u32 0, .int .u32 0, .int .u32 0, .int .i64 0, .slice none 0 0] 25 (by simp)
  have t0 := Ext.alloc (Ext.alloc (Below.refl w.heap.size w) (.cells #[.int .u32 (id : Int), .int .u32 (age : Int), .int .u32 (sq : Int), .int .i64 st, .slice A n q] 25)) (.cells #[.int .u32 0, .int .u32 0, .int .u32 0, .int .i64 0, .slice none 0 0] 25)
  have R0 := (hr.alloc (.cells #[.int .u32 (id : Int), .int .u32 (age : Int), .int .u32 (sq : Int), .int .i64 st, .slice A n q] 25)).alloc (.cells #[.int .u32 0, .int .u32 0, .int .u32 0, .int .i64 0, .slice none 0 0] 25)
  clear hr
  go_enter Try.func16, Try.ntmps16
  go_upto_region 1 with fail
  generalize (w.alloc (.cells #[.int .u32 (id : Int), .int .u32 (age : Int), .int .u32 (sq : Int), .int .i64 st, .slice A n q] 25)).alloc (.cells #[.int .u32 0, .int .u32 0, .int .u32 0, .int .i64 0, .slice none 0 0] 25) = W at *
  have x0 := A0.cell
  have f0 := A0.free
  obtain ⟨i0, hi, hz0, hz1, hz2⟩ := ninfo_rec
  go_wp2_with (at_builtin; refine wpList_append_rd _ rfl (.const (.slice none 0 0)) (.tmp 4) 23 rfl W.heap.size 27 i0 _ 3 8 Try.underlying23 hi hz0 hz1 hz2 rfl (by decide) _ 0 [] rfl ⟨rfl, .inl ⟨rfl, rfl⟩⟩ A n q (recsV rs) rfl (by rw [recsV_len, hlen]) R0.2 (recs_one rs) (by unfold maxLen; omega) (by omega) (Nat.le_refl _) ?_; intro v1 w1 own1 hg1 _; have b1 := (Below.refl W.heap.size W).grown hg1 (Nat.le_refl _) (fun k hk => by cases hk); rw [Nat.zero_add, List.nil_append] at own1; have O1 : OwnR w1 W.heap.size v1 n rs := own1; obtain ⟨A', c', rfl, R1⟩ := O1.rs hlen; have A1 := A0.next b1; have Z1 := Z0.next b1; have t1 := Ext.trans t0 b1; have x1 := A1.cell; have f1 := A1.free; have z1 := Z1.cell; have g1 := Z1.free; have lA := A0.lt; have lZ := Z0.lt; clear own1 hg1 b1 x0 f0 R0)
  have Z2 := nbox_else Z1 (show w.heap.size + 1 ≠ w.heap.size by omega) 4 (.slice A' n c')
  have O2 := OwnR.set O1 lA 4 (.slice A' n c')
  have t2 := Below.setCell (p := ⟨w.heap.size, 4, none⟩) t1 (Nat.le_refl _) (.slice A' n c')
  have B5 : BoxOf _ (w.heap.size + 1) #[.int .u32 (id : Int), .int .u32 (age : Int), .int .u32 (sq : Int), .int .i64 st, .slice A' n c'] 25 := nbox5 Z2 (.int .u32 (id : Int)) (.int .u32 (age : Int)) (.int .u32 (sq : Int)) (.int .i64 st) (.slice A' n c')
  have T5 := nbelow5 t2 (show w.heap.size ≤ w.heap.size + 1 by omega) (.int .u32 (id : Int)) (.int .u32 (age : Int)) (.int .u32 (sq : Int)) (.int .i64 st) (.slice A' n c')
  have O5 := nown5 O2 lZ (.int .u32 (id : Int)) (.int .u32 (age : Int)) (.int .u32 (sq : Int)) (.int .i64 st) (.slice A' n c')
  exact bodyPost_ret (v := .agg #[.int .u32 (id : Int), .int .u32 (age : Int), .int .u32 (sq : Int), .int .i64 st, .slice A' n c']) (results_cell_row rfl _ _ (w.heap.size + 1) 25 #[.int .u32 (id : Int), .int .u32 (age : Int), .int .u32 (sq : Int), .int .i64 st, .slice A' n c'] (0, 0) _ rfl B5 Try.underlying25 rfl (by kernel_rfl)) rfl ⟨A', ⟨c', rfl⟩, O5.rs' hlen, T5⟩
end Go.Proofs.Ytggdfecgkhnkkaa
