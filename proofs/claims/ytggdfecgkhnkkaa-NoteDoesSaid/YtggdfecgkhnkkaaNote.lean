/- Layer 11 (note): what may be. -/
import Derived.Test.YtggdfecgkhnkkaaRowsL
import Derived.Test.YtggdfecgkhnkkaaRef09
import Derived.Test.YtggdfecgkhnkkaaData
import Derived.Deep.DeepCutAuto
namespace Go.Proofs.Ytggdfecgkhnkkaa
open Go Go.RowKit
set_option linter.unusedSimpArgs false
set_option linter.unusedVariables false

/-- a record -/
structure NRec where
  sl : Nat
  ba : Bool
  su : Nat
def recV (r : NRec) : List Value := [.int .u8 (r.sl : Int), .bool r.ba, .int .u32 (r.su : Int)]
def recsV (rs : List NRec) : List Value := rs.flatMap recV
theorem recsV_len (rs : List NRec) : (recsV rs).length = rs.length * 3 := by
  induction rs with
  | nil => rfl
  | cons r rs ih =>
    show (recV r ++ recsV rs).length = _
    rw [List.length_append, ih]
    simp [recV]; omega
theorem recsV_at (rs : List NRec) (j : Nat) (hj : j < 3) : ∀ k (hk : k < rs.length), (recsV rs)[k * 3 + j]? = (recV rs[k])[j]? := by
  induction rs with
  | nil => intro k hk; simp at hk
  | cons r rs ih =>
    intro k hk
    show (recV r ++ recsV rs)[k * 3 + j]? = _
    rcases k with _ | k
    · rw [List.getElem?_append_left (by simp [recV]; omega)]
      simp
    · rw [List.getElem?_append_right (by simp [recV]; omega)]
      have h := ih k (by simpa using hk)
      simp only [List.getElem_cons_succ]
      rw [← h]
      congr 1
      simp [recV]; omega
/-- a slice reads as records -/
def Rs (w : World) (A : Option Addr) (n : Nat) (rs : List NRec) : Prop := rs.length = n ∧ Rd w A (recsV rs)
theorem Rs.below {w w' : World} {A : Option Addr} {n : Nat} {rs : List NRec} (h : Rs w A n rs) (hb : Below w.heap.size w w') : Rs w' A n rs := ⟨h.1, h.2.below hb⟩
theorem Rs.alloc {w : World} {A : Option Addr} {n : Nat} {rs : List NRec} (h : Rs w A n rs) (o : Obj) : Rs (w.alloc o) A n rs := ⟨h.1, h.2.alloc o⟩
theorem Rs.cells {w : World} {A : Option Addr} {n : Nat} {rs : List NRec} (h : Rs w A n rs) (hn : 0 < n) : ∃ b off, A = some ⟨b, off, none⟩ ∧ ∀ k (hk : k < rs.length),
    w.cell? ⟨b, off + k * 3, none⟩ = some (.int .u8 (rs[k].sl : Int)) ∧ w.cell? ⟨b, off + k * 3 + 1, none⟩ = some (.bool rs[k].ba) ∧ w.cell? ⟨b, off + k * 3 + 2, none⟩ = some (.int .u32 (rs[k].su : Int)) := by
  rcases h.2 with h2 | ⟨b, off, hA, hc⟩
  · exfalso
    have := recsV_len rs
    rw [h2, h.1] at this
    simp at this
    omega
  · refine ⟨b, off, hA, fun k hk => ?_⟩
    have l := recsV_len rs
    have e : ∀ j, j < 3 → w.cell? ⟨b, off + k * 3 + j, none⟩ = (recV rs[k])[j]? := by
      intro j hj
      have := hc (k * 3 + j) (by omega)
      rw [recsV_at rs j hj k hk] at this
      rw [← this]
      congr 2
      omega
    exact ⟨e 0 (by decide), e 1 (by decide), e 2 (by decide)⟩

def okN (n : Nat) : Bool := decide (1 ≤ n ∧ n ≤ 2147483648)
def okRec (m i : Nat) (last : Int) (s : Nat) : Bool := decide (last < (s : Int)) && ((((s : Int) == 255) && decide (0 < i) && decide (i + 1 = m)) || decide (s ≤ 14))
def lastOf (rs : List NRec) : Nat → Int
  | 0 => -1
  | k + 1 => ((rs[k]?.map (·.sl)).getD 0 : Nat)
def slotsK (rs : List NRec) : Nat → Bool
  | 0 => true
  | k + 1 => slotsK rs k && okRec rs.length k (lastOf rs k) ((rs[k]?.map (·.sl)).getD 0)
def hdB (age sq : Nat) (st : Int) (n : Nat) : Bool := decide ((1 ≤ n ∧ n ≤ 16) ∧ (1 ≤ age ∧ age ≤ 2147483648) ∧ (1 ≤ sq ∧ sq ≤ 2147483648) ∧ 0 ≤ st ∧ st < 64)
def noteB (age sq : Nat) (st : Int) (rs : List NRec) : Bool := hdB age sq st rs.length && slotsK rs rs.length

set_option maxRecDepth 100000 in
set_option maxHeartbeats 4000000 in
theorem ncheck_any (id age sq : Nat) (st : Int) (A : Option Addr) (n q : Nat) (rs : List NRec) (hn : n ≤ 1000) (hsl : ∀ r ∈ rs, r.sl < 256) (E : Int) (hE : E = if noteB age sq st rs then 0 else 8) (w : World) (hr : Rs w A n rs) :
    Calls Try.prog 10 #[.agg #[.int .u32 (id : Int), .int .u32 (age : Int), .int .u32 (sq : Int), .int .i64 st, .slice A n q]] w fun e w' => e = .returned (.int .i64 E) ∧ Below w.heap.size w w' := by
  have HE := Lib.hid hE
  clear hE
  have hlen := hr.1
  have hall : (hdB age sq st n = false ∧ (n < 1 ∨ (1 ≤ n ∧ 16 < n) ∨ ((1 ≤ n ∧ n ≤ 16) ∧ age < 1) ∨ ((1 ≤ n ∧ n ≤ 16) ∧ 1 ≤ age ∧ 2147483648 < age) ∨ ((1 ≤ n ∧ n ≤ 16) ∧ (1 ≤ age ∧ age ≤ 2147483648) ∧ sq < 1) ∨ ((1 ≤ n ∧ n ≤ 16) ∧ (1 ≤ age ∧ age ≤ 2147483648) ∧ 1 ≤ sq ∧ 2147483648 < sq) ∨
      ((1 ≤ n ∧ n ≤ 16) ∧ (1 ≤ age ∧ age ≤ 2147483648) ∧ (1 ≤ sq ∧ sq ≤ 2147483648) ∧ st < 0) ∨ ((1 ≤ n ∧ n ≤ 16) ∧ (1 ≤ age ∧ age ≤ 2147483648) ∧ (1 ≤ sq ∧ sq ≤ 2147483648) ∧ 0 ≤ st ∧ 64 ≤ st))) ∨
      (hdB age sq st n = true ∧ (1 ≤ n ∧ n ≤ 16) ∧ (1 ≤ age ∧ age ≤ 2147483648) ∧ (1 ≤ sq ∧ sq ≤ 2147483648) ∧ 0 ≤ st ∧ st < 64) := by
    unfold hdB
    by_cases h : (1 ≤ n ∧ n ≤ 16) ∧ (1 ≤ age ∧ age ≤ 2147483648) ∧ (1 ≤ sq ∧ sq ≤ 2147483648) ∧ 0 ≤ st ∧ st < 64
    · exact .inr ⟨decide_eq_true h, h⟩
    · exact .inl ⟨decide_eq_false h, by omega⟩
  have HALL := Lib.hid hall
  have HB : Hid (noteB age sq st rs = (hdB age sq st n && slotsK rs rs.length)) := by show _ = _; unfold noteB; rw [hlen]
  have HSL := Lib.hid hsl
  clear hall hsl
  go_enter Try.func10, Try.ntmps10
  go_upto_region 2 with fail
  have A0 := BoxOf.new w #[.int .u32 (id : Int), .int .u32 (age : Int), .int .u32 (sq : Int), .int .i64 st, .slice A n q] 25
  have t0 := Ext.alloc (Below.refl w.heap.size w) (.cells #[.int .u32 (id : Int), .int .u32 (age : Int), .int .u32 (sq : Int), .int .i64 st, .slice A n q] 25)
  have hr0 := hr.alloc (.cells #[.int .u32 (id : Int), .int .u32 (age : Int), .int .u32 (sq : Int), .int .i64 st, .slice A n q] 25)
  clear hr
  generalize w.alloc (.cells #[.int .u32 (id : Int), .int .u32 (age : Int), .int .u32 (sq : Int), .int .i64 st, .slice A n q] 25) = W at *
  have x0 := A0.cell
  go_cut [4] (fun s4 wx => s4 = .bool (hdB age sq st n) ∧ wx = W)
  case first =>
    rcases HALL.out with ⟨e, h⟩ | ⟨e, h1, h2, h3, h4⟩
    · have EE := Lib.hid e
      rcases h with h | ⟨h1, h⟩ | ⟨h1, h⟩ | ⟨h1, h2, h⟩ | ⟨h1, h2, h⟩ | ⟨h1, h2, h3, h⟩ | ⟨h1, h2, h3, h⟩ | ⟨h1, h2, h3, h4, h⟩
      all_goals
        clear HALL e
        try have d6 : decide (st < 64) = false := decide_eq_false (by omega)
        go_wp2_with fail
        go_meet
        exact ⟨by rw [EE.out], rfl⟩
    · have EE := Lib.hid e
      obtain ⟨h11, h12⟩ := h1
      obtain ⟨h21, h22⟩ := h2
      obtain ⟨h31, h32⟩ := h3
      obtain ⟨h41, h42⟩ := h4
      clear HALL e
      go_wp2_with fail
      go_meet
      exact ⟨by rw [EE.out], rfl⟩
  case rest =>
    obtain ⟨rfl, rfl⟩ := hcut
    generalize hhd : hdB age sq st n = hd at *
    clear HALL hhd
    go_wp2
    go_loopw [3, 4, 52] (fun la ok i wr => ∃ k : Nat, k ≤ n ∧ i = .int .i64 k ∧ la = .int .i64 (lastOf rs k) ∧ ok = .bool (hd && slotsK rs k) ∧ Below w.heap.size w wr ∧ BoxOf wr w.heap.size #[.int .u32 (id : Int), .int .u32 (age : Int), .int .u32 (sq : Int), .int .i64 st, .slice A n q] 25 ∧ Rs wr A n rs) (fun _ _ i _ => n - (intOf i).toNat)
    case atStart => exact ⟨0, by omega, rfl, rfl, by simp [slotsK], t0, A0, hr0⟩
    case round =>
      obtain ⟨k, hk, rfl, rfl, rfl, bw, Ak, hrk⟩ := hrel
      clear x0 A0 t0 hr0
      by_cases hlt : k < n
      · obtain ⟨b, off, rfl, hc⟩ := hrk.cells (by omega)
        obtain ⟨q0, q1, q2⟩ := hc k (by omega)
        have hs8 : rs[k].sl < 256 := HSL.out _ (List.getElem_mem _)
        have hsl : (rs[k]?.map (·.sl)).getD 0 = rs[k].sl := by simp [show k < rs.length by omega]
        have hstep : Hid (slotsK rs (k + 1) = (slotsK rs k && okRec n k (lastOf rs k) rs[k].sl)) := by show (slotsK rs k && okRec rs.length k (lastOf rs k) ((rs[k]?.map (·.sl)).getD 0)) = _; rw [hsl]; simp only [hlen]
        have hlast : Hid (lastOf rs (k + 1) = (rs[k].sl : Int)) := by show (((rs[k]?.map (·.sl)).getD 0 : Nat) : Int) = _; rw [hsl]
        have bq := Ext.alloc bw (.cells #[.int .u8 (rs[k].sl : Int), .bool rs[k].ba, .int .u32 (rs[k].su : Int)] 27)
        have Aq := Ak.alloc (.cells #[.int .u8 (rs[k].sl : Int), .bool rs[k].ba, .int .u32 (rs[k].su : Int)] 27)
        have hq := hrk.alloc (.cells #[.int .u8 (rs[k].sl : Int), .bool rs[k].ba, .int .u32 (rs[k].su : Int)] 27)
        have xk := Aq.cell
        generalize rs[k].sl = s at *
        generalize rs[k].ba = ba at *
        generalize rs[k].su = su at *
        have HST := hstep
        have HLA := hlast
        clear hstep hlast hsl hc hrk Ak bw
        generalize lastOf rs k = la at *
        generalize slotsK rs k = sk at *
        have HOK : Hid (∃ ok, (hd && sk) = ok) := ⟨_, rfl⟩
        obtain ⟨ok, hok⟩ := HOK.out
        clear HOK
        have HOK := Lib.hid hok
        rw [hok]
        have e14 : (decide ((s : Int) ≤ 14) = true ∧ decide (s ≤ 14) = true) ∨ (decide ((s : Int) ≤ 14) = false ∧ decide (s ≤ 14) = false) := by
          by_cases h : s ≤ 14
          · exact .inl ⟨decide_eq_true (by omega), decide_eq_true h⟩
          · exact .inr ⟨decide_eq_false (by omega), decide_eq_false h⟩
        have hpar : (((s : Int) == 255) = false) ∨ (((s : Int) == 255) = true ∧ decide (0 < (k : Int)) = false ∧ decide (0 < k) = false) ∨ (((s : Int) == 255) = true ∧ decide (0 < (k : Int)) = true ∧ decide (0 < k) = true ∧ ((k : Int) == (n : Int) - 1) = false ∧ decide (k + 1 = n) = false) ∨
            (((s : Int) == 255) = true ∧ decide (0 < (k : Int)) = true ∧ decide (0 < k) = true ∧ ((k : Int) == (n : Int) - 1) = true ∧ decide (k + 1 = n) = true) := by
          by_cases h1 : s = 255
          · have e1 : ((s : Int) == 255) = true := by rw [beq_iff_eq]; omega
            by_cases h2 : 0 < k
            · by_cases h3 : k + 1 = n
              · exact .inr (.inr (.inr ⟨e1, decide_eq_true (by omega), decide_eq_true h2, by rw [beq_iff_eq]; omega, decide_eq_true h3⟩))
              · exact .inr (.inr (.inl ⟨e1, decide_eq_true (by omega), decide_eq_true h2, by rw [beq_eq_false_iff_ne]; omega, decide_eq_false h3⟩))
            · exact .inr (.inl ⟨e1, decide_eq_false (by omega), decide_eq_false h2⟩)
          · exact .inl (by rw [beq_eq_false_iff_ne]; omega)
        have hok' : ok = false ∨ (ok = true ∧ decide (la < (s : Int)) = false) ∨ (ok = true ∧ decide (la < (s : Int)) = true) := by
          cases ok
          · exact .inl rfl
          · by_cases h : la < (s : Int)
            · exact .inr (.inr ⟨rfl, decide_eq_true h⟩)
            · exact .inr (.inl ⟨rfl, decide_eq_false h⟩)
        have e15 := Lib.hid e14
        have HPAR := Lib.hid hpar
        have HO2 := Lib.hid hok'
        clear e14 hpar hok' hok
        rcases HO2.out with rfl | ⟨rfl, e5⟩ | ⟨rfl, e5⟩
        · rcases HPAR.out with e1 | ⟨e1, e2, e2'⟩ | ⟨e1, e2, e2', e3, e3'⟩ | ⟨e1, e2, e2', e3, e3'⟩
          all_goals
            clear HPAR e15 HO2
            go_wp2
            go_roundw
            case rel => exact ⟨k + 1, by omega, by go_num, by first | (rw [HLA.out]; done) | (rw [HLA.out]; rw [beq_iff_eq] at e1; rw [e1]), by rw [HST.out, ← Bool.and_assoc, HOK.out]; simp [okRec, *], bq, Aq, hq⟩
            case measure => simp [intOf]; omega
        · rcases HPAR.out with e1 | ⟨e1, e2, e2'⟩ | ⟨e1, e2, e2', e3, e3'⟩ | ⟨e1, e2, e2', e3, e3'⟩
          all_goals
            clear HPAR e15 HO2
            go_wp2
            go_roundw
            case rel => exact ⟨k + 1, by omega, by go_num, by first | (rw [HLA.out]; done) | (rw [HLA.out]; rw [beq_iff_eq] at e1; rw [e1]), by rw [HST.out, ← Bool.and_assoc, HOK.out]; simp [okRec, *], bq, Aq, hq⟩
            case measure => simp [intOf]; omega
        · rcases HPAR.out with e1 | ⟨e1, e2, e2'⟩ | ⟨e1, e2, e2', e3, e3'⟩ | ⟨e1, e2, e2', e3, e3'⟩
          all_goals
            rcases e15.out with ⟨e6, e7⟩ | ⟨e6, e7⟩
            all_goals
              clear HPAR e15 HO2
              go_wp2
              go_roundw
              case rel => exact ⟨k + 1, by omega, by go_num, by first | (rw [HLA.out]; done) | (rw [HLA.out]; rw [beq_iff_eq] at e1; rw [e1]), by rw [HST.out, ← Bool.and_assoc, HOK.out]; simp [okRec, *], bq, Aq, hq⟩
              case measure => simp [intOf]; omega
      · have hkn : k = n := by omega
        have HF : Hid (noteB age sq st rs = (hd && slotsK rs k)) := by rw [hkn, ← hlen]; exact HB.out
        generalize slotsK rs k = sk at *
        have HOK : Hid (∃ ok, (hd && sk) = ok) := ⟨_, rfl⟩
        obtain ⟨ok, hok⟩ := HOK.out
        clear HOK
        have HOK := Lib.hid hok
        rw [hok]
        clear hok hkn
        cases ok
        · go_wp2
          go_ret
          exact ⟨ret_int (by rw [HE.out, HF.out, HOK.out]; rfl), bw⟩
        · go_wp2
          go_ret
          exact ⟨ret_int (by rw [HE.out, HF.out, HOK.out]; rfl), bw⟩
end Go.Proofs.Ytggdfecgkhnkkaa
