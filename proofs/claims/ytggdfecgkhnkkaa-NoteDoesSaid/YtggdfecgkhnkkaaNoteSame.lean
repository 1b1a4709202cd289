/- Layer 11 (note): two notes are compared; the next number of a reader. -/
import Derived.Test.YtggdfecgkhnkkaaNote
import Derived.Test.YtggdfecgkhnkkaaPack2
import Derived.Deep.RegionHeld3
import Derived.Deep.DeepCutAuto
namespace Go.Proofs.Ytggdfecgkhnkkaa
open Go Go.RowKit
set_option linter.unusedSimpArgs false
set_option linter.unusedVariables false

def recB (x y : NRec) : Bool := (x.sl == y.sl) && (x.ba == y.ba) && (x.su == y.su)
theorem recB_iff {x y : NRec} : recB x y = true ↔ x = y := by
  obtain ⟨a, b, c⟩ := x
  obtain ⟨d, e, f⟩ := y
  simp [recB, and_assoc]
theorem recs_ext {xs ys : List NRec} (hl : xs.length = ys.length) (h : ∀ j (h1 : j < xs.length) (h2 : j < ys.length), recB xs[j] ys[j] = true) : xs = ys := by
  refine List.ext_getElem hl fun j h1 h2 => recB_iff.1 (h j h1 h2)

set_option maxRecDepth 100000 in
set_option maxHeartbeats 1000000 in
theorem requal_any (A B : Option Addr) (n m q k : Nat) (xs ys : List NRec) (E : Bool) (hE : E = true ↔ xs = ys) (hn6 : n ≤ 1000000) (w : World) (hx : Rs w A n xs) (hy : Rs w B m ys) :
    Calls Try.prog 24 #[.slice A n q, .slice B m k] w fun e w' => e = .returned (.bool E) ∧ Below w.heap.size w w' := by
  have hxl := hx.1
  have hyl := hy.1
  by_cases hnm : n = m
  · subst hnm
    have d0 : ((n : Int) != (n : Int)) = false := by simp
    have HE := Lib.hid hE
    have HX := Lib.hid hx
    have HY := Lib.hid hy
    clear hE hx hy
    go_enter Try.func24, Try.ntmps24
    go_wp2
    go_loopw [13] (fun i wr => ∃ j : Nat, j ≤ n ∧ i = .int .i64 j ∧ Below w.heap.size w wr ∧ ∀ t (h1 : t < xs.length) (h2 : t < ys.length), t < j → recB xs[t] ys[t] = true) (fun i _ => n - (intOf i).toNat)
    case atStart => exact ⟨0, by omega, rfl, Below.refl _ _, fun t _ _ h => by omega⟩
    case round =>
      obtain ⟨j, hj, rfl, bw, hall⟩ := hrel
      clear d0
      by_cases hlt : j < n
      · obtain ⟨b, off, rfl, hc⟩ := (HX.out.below bw).cells (by omega)
        obtain ⟨b2, off2, rfl, hc2⟩ := (HY.out.below bw).cells (by omega)
        obtain ⟨q0, q1, q2⟩ := hc j (by omega)
        obtain ⟨p0, p1, p2⟩ := hc2 j (by omega)
        have hwj : wrap64 ((j : Int) + 1) = ((j + 1 : Nat) : Int) := by rw [IntWalk.wrap64_in _ (by omega)]; omega
        have hjx : j < xs.length := by omega
        have hjy : j < ys.length := by omega
        have HALL := Lib.hid hall
        cases hB : recB xs[j] ys[j] with
        | false =>
          have hne : E = false := by
            cases hEv : E
            · rfl
            · exfalso
              have := (HE.out.1 hEv)
              subst this
              rw [recB_iff.2 rfl] at hB
              cases hB
          subst hne
          unfold recB at hB
          have HB := Lib.hid hB
          clear hB hall hc hc2 HX HY HE
          generalize xs[j].sl = s1 at *
          generalize xs[j].ba = b1 at *
          generalize xs[j].su = u1 at *
          generalize ys[j].sl = s2 at *
          generalize ys[j].ba = b2' at *
          generalize ys[j].su = u2 at *
          have hcas : (¬ (s1 : Int) = (s2 : Int)) ∨ ((s1 : Int) = (s2 : Int) ∧ ¬ b1 = b2') ∨ ((s1 : Int) = (s2 : Int) ∧ b1 = b2' ∧ ¬ (u1 : Int) = (u2 : Int)) := by
            have h := HB.out
            by_cases e1 : s1 = s2
            · by_cases e2 : b1 = b2'
              · refine .inr (.inr ⟨by omega, e2, fun e3 => ?_⟩)
                rw [e1, e2, show u1 = u2 by omega] at h
                simp at h
              · exact .inr (.inl ⟨by omega, e2⟩)
            · exact .inl (by omega)
          have HCA := Lib.hid hcas
          clear hcas
          rcases HCA.out with e1 | ⟨e1, e2⟩ | ⟨e1, e2, e3⟩
          all_goals
            clear HB HALL HCA
            go_wp2
            go_region
            go_wp2
            go_ret
            exact ⟨rfl, Ext.drew bw⟩
        | true =>
          have hpx := recB_iff.1 hB
          have HB := Lib.hid hpx
          clear hB hall hc hc2 HX HY HE
          rw [HB.out] at q0 q1 q2
          generalize ys[j].sl = s2 at *
          generalize ys[j].ba = b2' at *
          generalize ys[j].su = u2 at *
          go_wp2
          go_region
          go_wp2
          go_roundw
          case rel => exact ⟨j + 1, by omega, by go_num, Ext.drew bw, fun t h1 h2 ht => by
            by_cases e : t = j
            · subst e; exact recB_iff.2 HB.out
            · exact HALL.out t h1 h2 (by omega)⟩
          case measure => simp [intOf]; omega
      · have hEt : E = true := HE.out.2 (recs_ext (by omega) fun t h1 h2 => hall t h1 h2 (by omega))
        subst hEt
        clear hall
        go_wp2
        go_ret
        exact ⟨rfl, bw⟩
  · have hEf : E = false := by
      cases E
      · rfl
      · exact absurd (congrArg List.length (hE.1 rfl)) (by omega)
    subst hEf
    have d0 : ((n : Int) != (m : Int)) = true := by simp; omega
    clear hE hx hy
    go_enter Try.func24, Try.ntmps24
    go_wp2
    go_ret
    exact ⟨rfl, Below.refl _ _⟩

set_option maxRecDepth 100000 in
set_option maxHeartbeats 1000000 in
theorem nsame_any (id age sq : Nat) (st : Int) (A : Option Addr) (n q : Nat) (rs : List NRec) (id' age' sq' : Nat) (st' : Int) (B : Option Addr) (m k : Nat) (ss : List NRec) (E : Bool) (hE : E = true ↔ id = id' ∧ age = age' ∧ sq = sq' ∧ st = st' ∧ rs = ss) (hn6 : n ≤ 1000000) (w : World) (hx : Rs w A n rs) (hy : Rs w B m ss) :
    Calls Try.prog 12 #[.agg #[.int .u32 (id : Int), .int .u32 (age : Int), .int .u32 (sq : Int), .int .i64 st, .slice A n q], .agg #[.int .u32 (id' : Int), .int .u32 (age' : Int), .int .u32 (sq' : Int), .int .i64 st', .slice B m k]] w fun e w' => e = .returned (.bool E) ∧ Below w.heap.size w w' := by
  have hcas : (E = false ∧ ((¬ (id : Int) = (id' : Int)) ∨ ((id : Int) = (id' : Int) ∧ ¬ (age : Int) = (age' : Int)) ∨ ((id : Int) = (id' : Int) ∧ (age : Int) = (age' : Int) ∧ ¬ (sq : Int) = (sq' : Int)) ∨ ((id : Int) = (id' : Int) ∧ (age : Int) = (age' : Int) ∧ (sq : Int) = (sq' : Int) ∧ ¬ st = st'))) ∨
      ((id : Int) = (id' : Int) ∧ (age : Int) = (age' : Int) ∧ (sq : Int) = (sq' : Int) ∧ st = st' ∧ (E = true ↔ rs = ss)) := by
    by_cases h1 : (id : Int) = (id' : Int) ∧ (age : Int) = (age' : Int) ∧ (sq : Int) = (sq' : Int) ∧ st = st'
    · refine .inr ⟨h1.1, h1.2.1, h1.2.2.1, h1.2.2.2, ?_⟩
      rw [hE]
      constructor
      · exact fun h => h.2.2.2.2
      · exact fun h => ⟨by omega, by omega, by omega, h1.2.2.2, h⟩
    · refine .inl ⟨?_, by omega⟩
      cases E
      · rfl
      · exfalso
        have := hE.1 rfl
        omega
  have HCA := Lib.hid hcas
  clear hcas hE
  go_enter Try.func12, Try.ntmps12
  go_upto_region 1 with fail
  have A0 := BoxOf.alloc (BoxOf.new w #[.int .u32 (id : Int), .int .u32 (age : Int), .int .u32 (sq : Int), .int .i64 st, .slice A n q] 25) (.cells #[.int .u32 (id' : Int), .int .u32 (age' : Int), .int .u32 (sq' : Int), .int .i64 st', .slice B m k] 25)
  have B0 := BoxOf.new' (w.alloc (.cells #[.int .u32 (id : Int), .int .u32 (age : Int), .int .u32 (sq : Int), .int .i64 st, .slice A n q] 25)) (w.heap.size + 1) #[.int .u32 (id' : Int), .int .u32 (age' : Int), .int .u32 (sq' : Int), .int .i64 st', .slice B m k] 25 (by simp)
  have t0 := Ext.alloc (Ext.alloc (Below.refl w.heap.size w) (.cells #[.int .u32 (id : Int), .int .u32 (age : Int), .int .u32 (sq : Int), .int .i64 st, .slice A n q] 25)) (.cells #[.int .u32 (id' : Int), .int .u32 (age' : Int), .int .u32 (sq' : Int), .int .i64 st', .slice B m k] 25)
  have X0 := (hx.alloc (.cells #[.int .u32 (id : Int), .int .u32 (age : Int), .int .u32 (sq : Int), .int .i64 st, .slice A n q] 25)).alloc (.cells #[.int .u32 (id' : Int), .int .u32 (age' : Int), .int .u32 (sq' : Int), .int .i64 st', .slice B m k] 25)
  have Y0 := (hy.alloc (.cells #[.int .u32 (id : Int), .int .u32 (age : Int), .int .u32 (sq : Int), .int .i64 st, .slice A n q] 25)).alloc (.cells #[.int .u32 (id' : Int), .int .u32 (age' : Int), .int .u32 (sq' : Int), .int .i64 st', .slice B m k] 25)
  clear hx hy
  generalize (w.alloc (.cells #[.int .u32 (id : Int), .int .u32 (age : Int), .int .u32 (sq : Int), .int .i64 st, .slice A n q] 25)).alloc (.cells #[.int .u32 (id' : Int), .int .u32 (age' : Int), .int .u32 (sq' : Int), .int .i64 st', .slice B m k] 25) = w0 at *
  have xA := A0.cell
  have xB := B0.cell
  rcases HCA.out with ⟨rfl, h⟩ | ⟨e1, e2, e3, e4, hE⟩
  · rcases h with e1 | ⟨e1, e2⟩ | ⟨e1, e2, e3⟩ | ⟨e1, e2, e3, e4⟩
    all_goals
      clear HCA
      go_wp2
      go_ret
      exact ⟨rfl, t0⟩
  · clear HCA
    have HE := Lib.hid hE
    clear hE
    go_wp2_with fail
    refine (requal_any A B n m q k rs ss E HE.out hn6 _ X0 Y0).mono ?_
    rintro e w1 ⟨rfl, b1⟩
    have t1 := Ext.trans t0 b1
    go_wp2
    go_ret
    exact ⟨rfl, t1⟩
end Go.Proofs.Ytggdfecgkhnkkaa
