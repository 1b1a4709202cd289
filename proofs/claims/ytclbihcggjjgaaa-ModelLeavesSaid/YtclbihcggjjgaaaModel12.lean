/- Layer 30 (model): the program: whether a plain array may be. -/
import Derived.Test.YtclbihcggjjgaaaModel11
namespace Go.Proofs.Ytclbihcggjjgaaa
open Go Go.RowKit
set_option linter.unusedSimpArgs false
set_option linter.unusedVariables false

/-- 0 where it is so, 8 where it is not -/
def OkBad (P : Prop) (e : Ending) : Prop := (P ∧ e = .returned (.int .i64 0)) ∨ (¬ P ∧ e = .returned (.int .i64 8))
theorem OkBad.ok {P : Prop} (h : P) : OkBad P (.returned (.int .i64 0)) := .inl ⟨h, rfl⟩
theorem OkBad.bad {P : Prop} (h : ¬ P) : OkBad P (.returned (.int .i64 8)) := .inr ⟨h, rfl⟩
def LastIs (gs : List GoTy.T) (j : Nat) (last : Int) : Prop := 0 ≤ last ∧ (j = 0 → last = 0) ∧ (∀ (h : j - 1 < gs.length), 0 < j → last = nuOf gs[j - 1])
theorem LastIs.none (gs : List GoTy.T) : LastIs gs 0 0 := ⟨Int.le_refl 0, fun _ => rfl, fun _ h => absurd h (Nat.lt_irrefl 0)⟩
theorem LastIs.next {gs : List GoTy.T} {j : Nat} {n last : Int} (h : LastIs gs j last) (hn : last < n) (hj : ∀ h : j < gs.length, nuOf gs[j] = n) : LastIs gs (j + 1) n :=
  ⟨by have := h.1; omega, fun h => by omega, fun h0 _ => (hj h0).symm⟩
theorem LastIs.no {x : Cfg} {ys : List (List (List UInt8))} {gs : List GoTy.T} {j : Nat} {last : Int} (h : LastIs gs j last) (hj : j < gs.length) (hn : nuOf gs[j] ≤ last) : ¬ GoOk x ys gs j := by
  intro hg
  obtain ⟨h1, h2⟩ := hg hj
  by_cases h0 : 0 < j
  · have h3 := h2 (by omega) h0
    have h4 := h.2.2 (by omega) h0
    omega
  · have h3 := h.2.1 (by omega)
    have := h1.1
    omega
theorem LastIs.yes {x : Cfg} {ys : List (List (List UInt8))} {gs : List GoTy.T} {j : Nat} {last : Int} (h : LastIs gs j last) (hj : j < gs.length) (hn : last < nuOf gs[j]) (h1 : askCode x ((kiOf gs[j]).toNat : Int) (atOf gs[j]) (manyOf gs[j]) (datOf gs[j]).length = 0) (h2 : MarksOk ((kiOf gs[j]).toNat : Int) (mksOf gs[j]) ys) : GoOk x ys gs j := fun _ =>
  ⟨⟨by have := h.1; omega, h1, h2⟩, fun h3 h0 => by have := h.2.2 h3 h0; omega⟩

set_option maxRecDepth 100000 in
set_option maxHeartbeats 2000000 in
theorem spcheck_any (S : Nat → Prop) (x : Cfg) (ys : List (List (List UInt8))) (gs : List GoTy.T) (A : Option Addr) (ca : Nat) (B : Option Addr) (cb : Nat) (w : World) (hy : RdIn w S (.sl (.sl (.sl .byte))) ys [.slice A ys.length ca]) (hg : RdIn w S (.sl GoTy) gs [.slice B gs.length cb]) :
    Calls Try.prog 18 #[x.val, .agg #[.slice A ys.length ca, .slice B gs.length cb]] w fun e w' => OkBad (PlainOk x ys gs) e ∧ Below w.heap.size w w' := by
  by_cases hx : x.Ok
  · have HB := Lib.hid (blocks_ok x hx)
    have HX := Lib.hid hx
    have HC : Hid (∀ (k a y : Int) (A : Option Addr) (n q : Nat) (w : World), Calls Try.prog 47 #[x.val, .agg #[.int .u8 k, .int .i64 a, .int .i64 y, .slice A n q]] w fun e w' => e = .returned (.int .i64 (askCode x k a y n)) ∧ Below w.heap.size w w') := scheck_all x
    obtain ⟨nbk, hnb⟩ : ∃ z, z = x.c * x.r * (x.m - 1) := ⟨_, rfl⟩
    have HN := Lib.hid hnb
    rw [← hnb] at HB
    clear hnb hx
    obtain ⟨id, m, c, r, l, h⟩ := x
    unfold Cfg.val at *
    dsimp only at *
    have C0 := BoxOf.alloc (BoxOf.new w #[.int .u32 (id : Int), .int .i64 m, .int .i64 c, .int .i64 r, .int .i64 l, .int .i64 h] 24) (.cells #[.slice A ys.length ca, .slice B gs.length cb] 28)
    have P0 := BoxOf.new' (w.alloc (.cells #[.int .u32 (id : Int), .int .i64 m, .int .i64 c, .int .i64 r, .int .i64 l, .int .i64 h] 24)) (w.heap.size + 1) #[.slice A ys.length ca, .slice B gs.length cb] 28 (by simp)
    have t0 := Ext.alloc (Ext.alloc (Below.refl w.heap.size w) (.cells #[.int .u32 (id : Int), .int .i64 m, .int .i64 c, .int .i64 r, .int .i64 l, .int .i64 h] 24)) (.cells #[.slice A ys.length ca, .slice B gs.length cb] 28)
    have HY := Lib.hid (hy.below t0)
    have HG := Lib.hid (hg.below t0)
    have HYM := Lib.hid (may_max hy)
    have HGM := Lib.hid (go_max hg)
    clear hy hg
    go_enter Try.func18, Try.ntmps18
    go_upto_region 1 with fail
    generalize (w.alloc (.cells #[.int .u32 (id : Int), .int .i64 m, .int .i64 c, .int .i64 r, .int .i64 l, .int .i64 h] 24)).alloc (.cells #[.slice A ys.length ca, .slice B gs.length cb] 28) = W at *
    have x0 := C0.cell
    go_wp2_with fail
    refine (HB.out _).mono ?_
    rintro e w1 ⟨rfl, b1⟩
    have C1 := C0.next b1
    have P1 := P0.next b1
    have t1 := Ext.trans t0 b1
    have HY1 := Lib.hid (HY.out.below b1)
    have HG1 := Lib.hid (HG.out.below b1)
    clear C0 P0 x0 HY HG t0
    have x1 := P1.cell
    rcases Bool.eq_false_or_eq_true ((ys.length : Int) != nbk) with e1 | e1
    · go_wp2
      go_ret
      exact ⟨OkBad.bad fun h => by have := h.len; have := HN.out; simp_all, t1⟩
    · rcases Bool.eq_false_or_eq_true (decide ((8 : Int) < (gs.length : Int))) with e2 | e2
      · go_wp2
        go_ret
        exact ⟨OkBad.bad fun h => by have := h.few; have := of_decide_eq_true e2; omega, t1⟩
      · have HL : Hid ((ys.length : Int) = nbk) := by show _ = _; simpa using e1
        have HF : Hid (gs.length ≤ 8) := by show _ ≤ _; have := of_decide_eq_false e2; omega
        go_wp2
        clear e1 e2
        go_loopw [8, 9, 36] (fun u v i wr => ∃ (j : Nat), j ≤ ys.length ∧ i = .int .i64 j ∧ Below w1.heap.size w1 wr ∧ Hid (∀ i, i < j → ValOk ys i)) (fun _ _ i _ => ys.length - (intOf i).toNat)
        case atStart => exact ⟨0, by omega, rfl, Below.refl _ _, fun i h => absurd h (Nat.not_lt_zero _)⟩
        case round =>
          obtain ⟨j, hj, rfl, b2, HA⟩ := hrel
          have P2 := P1.next b2
          by_cases hlt : j < ys.length
          · obtain ⟨b, off, A2, c2, rfl, q2, r2⟩ := may_at (HY1.out.below b2) hlt
            have HVK : Hid (ValOk ys j ↔ RowOk ys[j]) := ⟨fun h => h hlt, fun h _ => h⟩
            generalize ys[j] = zs at *
            have HWJ := next_wrap HYM.out hlt
            have HLJ := Lib.hid hlt
            have HZM := Lib.hid (val_max r2)
            have HR := Lib.hid r2
            have HCF := Lib.hid (has_check S zs A2 c2 wr r2)
            clear r2
            go_wp2_with fail
            refine HCF.out.mono ?_
            rintro e w3 ⟨⟨odd, rfl, hodd⟩, b3⟩
            have b4 := Ext.trans b2 b3
            have t4 := Ext.trans t1 b4
            have HOD := Lib.hid hodd
            clear hodd
            rcases Bool.eq_false_or_eq_true (decide ((zs.length : Int) < 1)) with e1 | e1
            · go_wp2
              go_ret
              exact ⟨OkBad.bad fun h => by have h2 := (HVK.out.1 (h.vals j)).1; have := of_decide_eq_true e1; omega, t4⟩
            · rcases Bool.eq_false_or_eq_true (decide ((512 : Int) < (zs.length : Int))) with e2 | e2
              · go_wp2
                go_ret
                exact ⟨OkBad.bad fun h => by have h2 := (HVK.out.1 (h.vals j)).2.1; have := of_decide_eq_true e2; omega, t4⟩
              · have HZ : Hid (1 ≤ zs.length ∧ zs.length ≤ 512) := by show _ ∧ _; have := of_decide_eq_false e1; have := of_decide_eq_false e2; omega
                cases odd with
                | true =>
                  go_wp2
                  go_ret
                  refine ⟨OkBad.bad fun h => ?_, t4⟩
                  have h2 := (HVK.out.1 (h.vals j)).2.2
                  obtain ⟨i, hi, h3⟩ := HOD.out.1 (by first | rfl | trivial)
                  have h4 := h2 i hi
                  unfold odd128 at h3
                  rw [h4] at h3
                  simp at h3
                | false =>
                  have HA' : Hid (∀ i, i < j + 1 → ValOk ys i) := by
                    intro i hi
                    by_cases h : i = j
                    · subst h
                      refine HVK.out.2 ⟨HZ.out.1, HZ.out.2, fun q hq => ?_⟩
                      by_cases h5 : (zs[q]).length = 128
                      · exact h5
                      · exfalso
                        have := HOD.out.2 ⟨q, hq, by unfold odd128; simp; omega⟩
                        cases this
                    · exact HA.out i (by omega)
                  go_wp2
                  go_roundw
                  case rel => exact ⟨j + 1, HLJ.out, by first | exact round_same HWJ | go_num, b4, HA'⟩
                  case measure => first | exact round_less HWJ HLJ.out | (have h := HLJ.out; simp [intOf]; omega)
          · have HV : Hid (∀ i, ValOk ys i) := fun i => by
              by_cases h : i < j
              · exact HA.out i h
              · exact fun h' => absurd h' (by omega)
            clear hj HA x1
            have x2 := P2.cell
            go_wp2
            clear x2
            go_loopw [10, 57] (fun u i wr => ∃ (j : Nat) (last : Int), j ≤ gs.length ∧ u = .int .i64 last ∧ i = .int .i64 j ∧ Below w1.heap.size w1 wr ∧ Hid (LastIs gs j last ∧ ∀ i, i < j → GoOk ⟨id, m, c, r, l, h⟩ ys gs i)) (fun _ i _ => gs.length - (intOf i).toNat)
            case atStart => exact ⟨0, 0, by omega, rfl, rfl, b2, LastIs.none gs, fun i h => absurd h (Nat.not_lt_zero _)⟩
            case round =>
              obtain ⟨j, last, hj, rfl, rfl, b3, HA⟩ := hrel
              clear b2 P2
              have P2 := P1.next b3
              have C2 := C1.next b3
              have t3 := Ext.trans t1 b3
              by_cases hlt : j < gs.length
              · obtain ⟨b, off, Ab, cg, Am, cm, rfl, q0, q1, q2, q3, q4, q5, i0, i1, i2, rb, rm⟩ := go_at (HG1.out.below b3) hlt
                have HNO : Hid (nuOf gs[j] ≤ last → ¬ GoOk ⟨id, m, c, r, l, h⟩ ys gs j) := fun h => HA.out.1.no hlt h
                have HYES : Hid (last < nuOf gs[j] → askCode ⟨id, m, c, r, l, h⟩ ((kiOf gs[j]).toNat : Int) (atOf gs[j]) (manyOf gs[j]) (datOf gs[j]).length = 0 → MarksOk ((kiOf gs[j]).toNat : Int) (mksOf gs[j]) ys → GoOk ⟨id, m, c, r, l, h⟩ ys gs j ∧ LastIs gs (j + 1) (nuOf gs[j])) := fun h1 h2 h3 => ⟨HA.out.1.yes hlt h1 h2 h3, HA.out.1.next h1 (fun _ => rfl)⟩
                have HGK : Hid (GoOk ⟨id, m, c, r, l, h⟩ ys gs j → OneOk ⟨id, m, c, r, l, h⟩ ys gs[j]) := fun h => (h hlt).1
                generalize gs[j] = g at *
                have HWJ := next_wrap HGM.out hlt
                have HLJ := Lib.hid hlt
                have bA := Ext.alloc (Below.refl wr.heap.size wr) (.cells #[.int .i64 (nuOf g), .int .u8 ((kiOf g).toNat : Int), .int .i64 (atOf g), .int .i64 (manyOf g), .slice Ab (datOf g).length cg, .slice Am (mksOf g).length cm] 64)
                have b4 := Ext.trans b3 bA
                have t4 := Ext.trans t3 bA
                have C3 := BoxOf.alloc C2 (.cells #[.int .i64 (nuOf g), .int .u8 ((kiOf g).toNat : Int), .int .i64 (atOf g), .int .i64 (manyOf g), .slice Ab (datOf g).length cg, .slice Am (mksOf g).length cm] 64)
                have P3 := BoxOf.alloc P2 (.cells #[.int .i64 (nuOf g), .int .u8 ((kiOf g).toNat : Int), .int .i64 (atOf g), .int .i64 (manyOf g), .slice Ab (datOf g).length cg, .slice Am (mksOf g).length cm] 64)
                have GN := BoxOf.new wr #[.int .i64 (nuOf g), .int .u8 ((kiOf g).toNat : Int), .int .i64 (atOf g), .int .i64 (manyOf g), .slice Ab (datOf g).length cg, .slice Am (mksOf g).length cm] 64
                have HY2 := Lib.hid (HY1.out.below b4)
                have HRM2 := Lib.hid (rm.below bA)
                clear i0 i1 i2 rb rm bA
                go_upto_region 15 with fail
                obtain ⟨gn, hgn⟩ : ∃ z : Nat, z = wr.heap.size := ⟨_, rfl⟩
                rw [← hgn] at GN ⊢
                generalize wr.alloc (.cells #[.int .i64 (nuOf g), .int .u8 ((kiOf g).toNat : Int), .int .i64 (atOf g), .int .i64 (manyOf g), .slice Ab (datOf g).length cg, .slice Am (mksOf g).length cm] 64) = Wg at *
                have x3 := C3.cell
                have y3 := P3.cell
                have z3 := GN.cell
                clear q0 q1 q2 q3 q4 q5 hgn C2 P2 b3 t3
                rcases Bool.eq_false_or_eq_true (decide (nuOf g ≤ last)) with e1 | e1
                · go_wp2
                  go_ret
                  exact ⟨OkBad.bad fun h => HNO.out (of_decide_eq_true e1) (h.goes j), t4⟩
                · rcases Bool.eq_false_or_eq_true (askCode ⟨id, m, c, r, l, h⟩ ((kiOf g).toNat : Int) (atOf g) (manyOf g) (datOf g).length != 0) with e4 | e4
                  · go_wp2_with fail
                    refine (HC.out _ _ _ _ _ _ _).mono ?_
                    rintro e w5 ⟨rfl, b5⟩
                    have t5 := Ext.trans t4 b5
                    clear x3 y3 z3
                    go_wp2
                    go_ret
                    exact ⟨OkBad.bad fun h => by have h2 := (HGK.out (h.goes j)).2.1; rw [h2] at e4; simp at e4, t5⟩
                  · go_wp2_with fail
                    refine (HC.out _ _ _ _ _ _ _).mono ?_
                    rintro e w5 ⟨rfl, b5⟩
                    have t5 := Ext.trans t4 b5
                    have b6 := Ext.trans b4 b5
                    have y5 := (P3.next b5).cell
                    have G5 := GN.next b5
                    have z5 := G5.cell
                    have HMK := Lib.hid (smarks_any S S ys A ca (nuOf g) ((kiOf g).toNat : Int) (atOf g) (manyOf g) Ab (datOf g).length cg (mksOf g) Am cm w5 (HY2.out.below b5) (HRM2.out.below b5))
                    clear x3 y3 z3
                    go_wp2_with fail
                    refine (HMK.out).mono ?_
                    rintro e w7 ⟨⟨bm, rfl, hbm⟩, b7⟩
                    have t7 := Ext.trans t5 b7
                    have b8 := Ext.trans b6 b7
                    have z7 := (G5.next b7).cell
                    have HBM := Lib.hid hbm
                    clear hbm y5 z5
                    cases bm with
                    | false =>
                      go_wp2
                      go_ret
                      exact ⟨OkBad.bad fun h => by have h2 := HBM.out.2 (HGK.out (h.goes j)).2.2; exact absurd h2 (by decide), t7⟩
                    | true =>
                      have HA' : Hid (LastIs gs (j + 1) (nuOf g) ∧ ∀ i, i < j + 1 → GoOk ⟨id, m, c, r, l, h⟩ ys gs i) := by
                        obtain ⟨h1, h2⟩ := HYES.out (by have := of_decide_eq_false e1; omega) (by simpa using e4) (HBM.out.1 (by first | rfl | trivial))
                        refine ⟨h2, fun i hi => ?_⟩
                        by_cases h : i = j
                        · subst h; exact h1
                        · exact HA.out.2 i (by omega)
                      go_wp2
                      go_roundw
                      case rel => exact ⟨j + 1, _, HLJ.out, rfl, by first | exact round_same HWJ | go_num, b8, HA'⟩
                      case measure => first | exact round_less HWJ HLJ.out | (have h := HLJ.out; simp [intOf]; omega)
              · go_wp2
                go_ret
                exact ⟨OkBad.ok ⟨HX.out, HL.out.trans HN.out, HF.out, HV.out, fun i => by
                  by_cases h : i < j
                  · exact HA.out.2 i h
                  · exact fun h' => absurd h' (by omega)⟩, t3⟩
  · have HB := Lib.hid (blocks_bad x hx)
    have HX : Hid (¬ PlainOk x ys gs) := fun h => hx h.cfg
    clear hx
    obtain ⟨id, m, c, r, l, h⟩ := x
    unfold Cfg.val at *
    dsimp only at *
    have C0 := BoxOf.alloc (BoxOf.new w #[.int .u32 (id : Int), .int .i64 m, .int .i64 c, .int .i64 r, .int .i64 l, .int .i64 h] 24) (.cells #[.slice A ys.length ca, .slice B gs.length cb] 28)
    have t0 := Ext.alloc (Ext.alloc (Below.refl w.heap.size w) (.cells #[.int .u32 (id : Int), .int .i64 m, .int .i64 c, .int .i64 r, .int .i64 l, .int .i64 h] 24)) (.cells #[.slice A ys.length ca, .slice B gs.length cb] 28)
    clear hy hg
    go_enter Try.func18, Try.ntmps18
    go_upto_region 1 with fail
    generalize (w.alloc (.cells #[.int .u32 (id : Int), .int .i64 m, .int .i64 c, .int .i64 r, .int .i64 l, .int .i64 h] 24)).alloc (.cells #[.slice A ys.length ca, .slice B gs.length cb] 28) = W at *
    have x0 := C0.cell
    go_wp2_with fail
    refine (HB.out _).mono ?_
    rintro e w1 ⟨rfl, b1⟩
    have t1 := Ext.trans t0 b1
    clear x0 C0
    go_wp2
    go_ret
    exact ⟨OkBad.bad HX.out, t1⟩
end Go.Proofs.Ytclbihcggjjgaaa
