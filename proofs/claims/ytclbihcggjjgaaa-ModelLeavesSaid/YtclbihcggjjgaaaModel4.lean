/- Layer 30 (model): plain arrays are read: rows, and whether one is great. -/
import Derived.Test.YtclbihcggjjgaaaModel3
import Derived.BigRegion
namespace Go.Proofs.Ytclbihcggjjgaaa
open Go Go.RowKit
set_option linter.unusedSimpArgs false
set_option linter.unusedVariables false

def nuOf (g : GoTy.T) : Int := (show Int × (UInt8 × Int × Int × List UInt8 × Unit) × List Int × Unit from g).1
def kiOf (g : GoTy.T) : UInt8 := (show Int × (UInt8 × Int × Int × List UInt8 × Unit) × List Int × Unit from g).2.1.1
def atOf (g : GoTy.T) : Int := (show Int × (UInt8 × Int × Int × List UInt8 × Unit) × List Int × Unit from g).2.1.2.1
def manyOf (g : GoTy.T) : Int := (show Int × (UInt8 × Int × Int × List UInt8 × Unit) × List Int × Unit from g).2.1.2.2.1
def datOf (g : GoTy.T) : List UInt8 := (show Int × (UInt8 × Int × Int × List UInt8 × Unit) × List Int × Unit from g).2.1.2.2.2.1
def mksOf (g : GoTy.T) : List Int := (show Int × (UInt8 × Int × Int × List UInt8 × Unit) × List Int × Unit from g).2.2.1
section
variable {w : World} {S : Nat → Prop}
theorem may_at {ys : List (List (List UInt8))} {A : Option Addr} {c : Nat} (h : RdIn w S (.sl (.sl (.sl .byte))) ys [.slice A ys.length c]) {k : Nat} (hk : k < ys.length) :
    ∃ b off A2 c2, A = some ⟨b, off, none⟩ ∧ w.cell? ⟨b, off + k, none⟩ = some (.slice A2 (ys[k]'hk).length c2) ∧ RdIn w S (.sl (.sl .byte)) (ys[k]'hk) [.slice A2 (ys[k]'hk).length c2] := by
  obtain ⟨A1, c1, e1, _, _, hr1⟩ := view3 h
  injection e1 with e11 e12 e13
  obtain ⟨b, off, e2, _, hrow⟩ := hr1 (by omega)
  obtain ⟨A2, c2, q2, r2⟩ := hrow k hk
  exact ⟨b, off, A2, c2, e11.trans e2, q2, r2⟩
theorem val_at {ys : List (List UInt8)} {A : Option Addr} {c : Nat} (h : RdIn w S (.sl (.sl .byte)) ys [.slice A ys.length c]) {k : Nat} (hk : k < ys.length) :
    ∃ b off A2 c2, A = some ⟨b, off, none⟩ ∧ w.cell? ⟨b, off + k, none⟩ = some (.slice A2 (ys[k]'hk).length c2) ∧ RdIn w S (.sl .byte) (ys[k]'hk) [.slice A2 (ys[k]'hk).length c2] := by
  obtain ⟨A1, c1, e1, _, _, hr1⟩ := view2 h
  injection e1 with e11 e12 e13
  obtain ⟨b, off, e2, _, hrow⟩ := hr1 (by omega)
  obtain ⟨A2, c2, q2, r2⟩ := hrow k hk
  exact ⟨b, off, A2, c2, e11.trans e2, q2, r2⟩
theorem go_at {gs : List GoTy.T} {B : Option Addr} {d : Nat} (h : RdIn w S (.sl GoTy) gs [.slice B gs.length d]) {j : Nat} (hj : j < gs.length) :
    ∃ b off Ab cb Am cm, B = some ⟨b, off, none⟩ ∧ w.cell? ⟨b, off + j * 6, none⟩ = some (.int .i64 (nuOf (gs[j]'hj))) ∧ w.cell? ⟨b, off + j * 6 + 1, none⟩ = some (.int .u8 ((kiOf (gs[j]'hj)).toNat : Int)) ∧ w.cell? ⟨b, off + j * 6 + 2, none⟩ = some (.int .i64 (atOf (gs[j]'hj))) ∧ w.cell? ⟨b, off + j * 6 + 3, none⟩ = some (.int .i64 (manyOf (gs[j]'hj))) ∧ w.cell? ⟨b, off + j * 6 + 4, none⟩ = some (.slice Ab (datOf (gs[j]'hj)).length cb) ∧ w.cell? ⟨b, off + j * 6 + 5, none⟩ = some (.slice Am (mksOf (gs[j]'hj)).length cm) ∧
      IsInt (nuOf (gs[j]'hj)) ∧ IsInt (atOf (gs[j]'hj)) ∧ IsInt (manyOf (gs[j]'hj)) ∧ RdIn w S (.sl .byte) (datOf (gs[j]'hj)) [.slice Ab (datOf (gs[j]'hj)).length cb] ∧ RdIn w S (.sl .int) (mksOf (gs[j]'hj)) [.slice Am (mksOf (gs[j]'hj)).length cm] := by
  obtain ⟨A1, c1, e1, _, _, hr1⟩ := viewG h
  injection e1 with e11 e12 e13
  obtain ⟨b, off, e2, _, hrow⟩ := hr1 (by omega)
  obtain ⟨es, hc, rg⟩ := hrow j hj
  obtain ⟨nu, ki, at', many, bs, vd, ms, vm, eg, rfl, i0, i1, i2, Rb, Rm⟩ := going_view rg
  obtain ⟨Ab, cb, e3, _⟩ := rdin_sl.1 Rb
  obtain ⟨Am, cm, e4, _⟩ := rdin_sl.1 Rm
  obtain rfl := (List.cons.inj e3).1
  obtain rfl := (List.cons.inj e4).1
  rw [eg]
  exact ⟨b, off, Ab, cb, Am, cm, e11.trans e2, hc 0 (by decide), hc 1 (by decide), hc 2 (by decide), hc 3 (by decide), hc 4 (by decide), hc 5 (by decide), i0, i1, i2, Rb, Rm⟩
theorem mark_at {ms : List Int} {A : Option Addr} {c : Nat} (h : RdIn w S (.sl .int) ms [.slice A ms.length c]) {k : Nat} (hk : k < ms.length) :
    ∃ b off, A = some ⟨b, off, none⟩ ∧ w.cell? ⟨b, off + k, none⟩ = some (.int .i64 (ms[k]'hk)) ∧ IsInt (ms[k]'hk) := by
  obtain ⟨A1, c1, e1, _, _, _, hh⟩ := rdin_sl.1 h
  injection e1 with e1 _
  injection e1 with e11 e12 e13
  rcases hh with hh | ⟨b, off, e2, _, hc⟩
  · rw [hh] at hk; exact absurd hk (Nat.not_lt_zero _)
  · obtain ⟨es, hce, hre⟩ := hc k hk
    have h0 := hce 0 (by decide)
    rw [(rdin_int.1 hre).1] at h0
    have e9 : off + k * Ty.size .int + 0 = off + k := by show off + k * 1 + 0 = _; omega
    rw [e9] at h0
    exact ⟨b, off, e11.trans e2, h0, (rdin_int.1 hre).2⟩
theorem may_max {ys : List (List (List UInt8))} {v : Value} (h : RdIn w S (.sl (.sl (.sl .byte))) ys [v]) : ys.length ≤ maxLen := by
  obtain ⟨_, _, _, h1, _⟩ := view3 h
  exact h1
theorem val_max {ys : List (List UInt8)} {v : Value} (h : RdIn w S (.sl (.sl .byte)) ys [v]) : ys.length ≤ maxLen := by
  obtain ⟨_, _, _, h1, _⟩ := view2 h
  exact h1
theorem go_max {gs : List GoTy.T} {v : Value} (h : RdIn w S (.sl GoTy) gs [v]) : gs.length ≤ maxLen := by
  obtain ⟨_, _, _, h1, _⟩ := viewG h
  exact h1
theorem mark_max {ms : List Int} {v : Value} (h : RdIn w S (.sl .int) ms [v]) : ms.length ≤ maxLen := by
  obtain ⟨_, _, _, h1, h2, _⟩ := rdin_sl.1 h
  exact Nat.le_trans h1 h2
theorem byte_max {bs : List UInt8} {v : Value} (h : RdIn w S (.sl .byte) bs [v]) : bs.length ≤ maxLen := by
  obtain ⟨_, _, _, h1, h2, _⟩ := rdin_sl.1 h
  exact Nat.le_trans h1 h2
end
theorem next_wrap {j n : Nat} (h : n ≤ maxLen) (hj : j < n) : Hid (wrap64 ((j : Int) + 1) = ((j + 1 : Nat) : Int)) := by
  show _ = _
  rw [IntWalk.wrap64_in _ (by unfold maxLen at h; omega)]
  omega

set_option maxRecDepth 100000 in
set_option maxHeartbeats 2000000 in
theorem rgreat_any (S : Nat → Prop) (ys : List (List (List UInt8))) (gs : List GoTy.T) (A : Option Addr) (c : Nat) (B : Option Addr) (d : Nat) (w : World) (hy : RdIn w S (.sl (.sl (.sl .byte))) ys [.slice A ys.length c]) (hg : RdIn w S (.sl GoTy) gs [.slice B gs.length d]) :
    Calls Try.prog 9 #[.agg #[.slice A ys.length c, .slice B gs.length d]] w fun e w' => (∃ b, e = .returned (.bool b)) ∧ Below w.heap.size w w' := by
  have P0 := BoxOf.new w #[.slice A ys.length c, .slice B gs.length d] 28
  have t0 := Ext.alloc (Below.refl w.heap.size w) (.cells #[.slice A ys.length c, .slice B gs.length d] 28)
  have HY := Lib.hid (hy.below t0)
  have HG := Lib.hid (hg.below t0)
  have HYM := Lib.hid (may_max hy)
  have HGM := Lib.hid (go_max hg)
  clear hy hg
  go_enter Try.func9, Try.ntmps9
  go_upto_region 1 with fail
  generalize w.alloc (.cells #[.slice A ys.length c, .slice B gs.length d] 28) = W at *
  obtain ⟨N, hN⟩ : ∃ z : Nat, z = ys.length := ⟨_, rfl⟩
  obtain ⟨M, hM⟩ : ∃ z : Nat, z = gs.length := ⟨_, rfl⟩
  go_wp2
  go_loopw [3, 4] (fun n i wr => ∃ (k : Nat) (z : Int), k ≤ ys.length ∧ n = .int .i64 z ∧ i = .int .i64 k ∧ Below W.heap.size W wr) (fun _ i _ => ys.length - (intOf i).toNat)
  case atStart => exact ⟨0, 0, by omega, rfl, rfl, Below.refl _ _⟩
  case round =>
    obtain ⟨k, z, hk, rfl, rfl, b1⟩ := hrel
    have P1 := P0.next b1
    have x1 := P1.cell
    by_cases hlt : k < ys.length
    · by_cases h2 : k < 2000
      · obtain ⟨b, off, A2, c2, rfl, q2, r2⟩ := may_at (HY.out.below b1) hlt
        generalize ys[k] = zs at *
        have HZM := Lib.hid (val_max r2)
        have HR := Lib.hid r2
        have HWK := next_wrap HYM.out hlt
        have HLK := Lib.hid hlt
        have h2' : (k : Int) < 2000 := by omega
        obtain ⟨w0, hw0⟩ : ∃ z : World, z = wr := ⟨_, rfl⟩
        rw [← hw0] at b1 q2 HR P1
        have bw0 : Below w0.heap.size w0 wr := by rw [hw0]; exact Below.refl _ _
        clear r2
        go_wp2
        go_loopw [3, 5] (fun n i wq => ∃ (j : Nat) (z : Int), j ≤ zs.length ∧ n = .int .i64 z ∧ i = .int .i64 j ∧ Below w0.heap.size w0 wq) (fun _ i _ => zs.length - (intOf i).toNat)
        case atStart => exact ⟨0, _, by omega, rfl, rfl, bw0⟩
        case round =>
          obtain ⟨j, z2, hj, rfl, rfl, b2⟩ := hrel
          clear x1 hw0 bw0
          have P2 := P1.next b2
          have x2 := P2.cell
          have q3 := (b2.cell (p := ⟨b, off + k, none⟩) (block_lt_of_cell q2)).trans q2
          by_cases hltj : j < zs.length
          · by_cases h6 : j < 600
            · obtain ⟨b5, off5, A5, c5, rfl, q5, r5⟩ := val_at (HR.out.below b2) hltj
              generalize zs[j] = bs at *
              have h6' : (j : Int) < 600 := by omega
              have HWJ := next_wrap HZM.out hltj
              have HLJ := Lib.hid hltj
              clear r5
              go_wp2
              go_roundw
              case rel => exact ⟨j + 1, _, HLJ.out, rfl, by first | exact round_same HWJ | go_num, b2⟩
              case measure => first | exact round_less HWJ HLJ.out | (have h := HLJ.out; simp [intOf]; omega)
            · have h6' : ¬ (j : Int) < 600 := by omega
              have b3 := Ext.trans b1 b2
              go_wp2
              go_roundw
              case rel => exact ⟨k + 1, _, HLK.out, rfl, by first | exact round_same HWK | go_num, b3⟩
              case measure => first | exact round_less HWK HLK.out | (have h := HLK.out; simp [intOf]; omega)
          · have b3 := Ext.trans b1 b2
            go_wp2
            go_roundw
            case rel => exact ⟨k + 1, _, HLK.out, rfl, by first | exact round_same HWK | go_num, b3⟩
            case measure => first | exact round_less HWK HLK.out | (have h := HLK.out; simp [intOf]; omega)
      · have h2' : ¬ (k : Int) < 2000 := by omega
        have h3 : (k : Int) < (ys.length : Int) := by omega
        have HK := Lib.hid hk
        clear hk hlt
        go_wp2
        go_loopw [3, 6] (fun n i wq => ∃ (j : Nat) (z : Int), j ≤ gs.length ∧ n = .int .i64 z ∧ i = .int .i64 j ∧ Below W.heap.size W wq) (fun _ i _ => gs.length - (intOf i).toNat)
        case atStart => exact ⟨0, _, by omega, rfl, rfl, b1⟩
        case round =>
          obtain ⟨j, z2, hj, rfl, rfl, b2⟩ := hrel
          clear x1 P1 b1
          have P2 := P0.next b2
          have x2 := P2.cell
          by_cases hltj : j < gs.length
          · by_cases h5 : j < 50
            · obtain ⟨b, off, Ab, cb, Am, cm, rfl, q0, q1, q2, q3, q4, q5, i0, i1, i2, rb, rm⟩ := go_at (HG.out.below b2) hltj
              generalize gs[j] = g at *
              have h5' : (j : Int) < 50 := by omega
              have HWJ := next_wrap HGM.out hltj
              have HLJ := Lib.hid hltj
              have t3 := b2.drew
              clear i0 i1 i2 rb rm q0 q1 q2 q3
              go_wp2
              go_region
              go_wp2
              go_roundw
              case rel => exact ⟨j + 1, _, HLJ.out, rfl, by first | exact round_same HWJ | go_num, t3⟩
              case measure => first | exact round_less HWJ HLJ.out | (have h := HLJ.out; simp [intOf]; omega)
            · have h5' : ¬ (j : Int) < 50 := by omega
              have t3 := Ext.trans t0 b2
              have h4 : (j : Int) < (gs.length : Int) := by omega
              rcases Bool.eq_false_or_eq_true (decide ((6000 : Int) < z2)) with e1 | e1
              · go_wp2
                go_ret
                exact ⟨by first | exact ⟨_, rfl⟩ | simp, t3⟩
              · rcases Bool.eq_false_or_eq_true (decide ((1500 : Int) < (ys.length : Int))) with e2 | e2
                · go_wp2
                  go_ret
                  exact ⟨by first | exact ⟨_, rfl⟩ | simp, t3⟩
                · rcases Bool.eq_false_or_eq_true (decide ((20 : Int) < (gs.length : Int))) with e3 | e3
                  · go_wp2
                    go_ret
                    exact ⟨by first | exact ⟨_, rfl⟩ | simp, t3⟩
                  · go_wp2
                    go_ret
                    exact ⟨by first | exact ⟨_, rfl⟩ | simp, t3⟩
          · have h4 : ¬ (j : Int) < (gs.length : Int) := by omega
            have t3 := Ext.trans t0 b2
            rcases Bool.eq_false_or_eq_true (decide ((6000 : Int) < z2)) with e1 | e1
            · go_wp2
              go_ret
              exact ⟨by first | exact ⟨_, rfl⟩ | simp, t3⟩
            · rcases Bool.eq_false_or_eq_true (decide ((1500 : Int) < (ys.length : Int))) with e2 | e2
              · go_wp2
                go_ret
                exact ⟨by first | exact ⟨_, rfl⟩ | simp, t3⟩
              · rcases Bool.eq_false_or_eq_true (decide ((20 : Int) < (gs.length : Int))) with e3 | e3
                · go_wp2
                  go_ret
                  exact ⟨by first | exact ⟨_, rfl⟩ | simp, t3⟩
                · go_wp2
                  go_ret
                  exact ⟨by first | exact ⟨_, rfl⟩ | simp, t3⟩
    · have h3 : ¬ (k : Int) < (ys.length : Int) := by omega
      have HK := Lib.hid hk
      clear hk hlt
      go_wp2
      go_loopw [3, 6] (fun n i wq => ∃ (j : Nat) (z : Int), j ≤ gs.length ∧ n = .int .i64 z ∧ i = .int .i64 j ∧ Below W.heap.size W wq) (fun _ i _ => gs.length - (intOf i).toNat)
      case atStart => exact ⟨0, _, by omega, rfl, rfl, b1⟩
      case round =>
        obtain ⟨j, z2, hj, rfl, rfl, b2⟩ := hrel
        clear x1 P1 b1
        have P2 := P0.next b2
        have x2 := P2.cell
        by_cases hltj : j < gs.length
        · by_cases h5 : j < 50
          · obtain ⟨b, off, Ab, cb, Am, cm, rfl, q0, q1, q2, q3, q4, q5, i0, i1, i2, rb, rm⟩ := go_at (HG.out.below b2) hltj
            generalize gs[j] = g at *
            have h5' : (j : Int) < 50 := by omega
            have HWJ := next_wrap HGM.out hltj
            have HLJ := Lib.hid hltj
            have t3 := b2.drew
            clear i0 i1 i2 rb rm q0 q1 q2 q3
            go_wp2
            go_region
            go_wp2
            go_roundw
            case rel => exact ⟨j + 1, _, HLJ.out, rfl, by first | exact round_same HWJ | go_num, t3⟩
            case measure => first | exact round_less HWJ HLJ.out | (have h := HLJ.out; simp [intOf]; omega)
          · have h5' : ¬ (j : Int) < 50 := by omega
            have t3 := Ext.trans t0 b2
            have h4 : (j : Int) < (gs.length : Int) := by omega
            rcases Bool.eq_false_or_eq_true (decide ((6000 : Int) < z2)) with e1 | e1
            · go_wp2
              go_ret
              exact ⟨by first | exact ⟨_, rfl⟩ | simp, t3⟩
            · rcases Bool.eq_false_or_eq_true (decide ((1500 : Int) < (ys.length : Int))) with e2 | e2
              · go_wp2
                go_ret
                exact ⟨by first | exact ⟨_, rfl⟩ | simp, t3⟩
              · rcases Bool.eq_false_or_eq_true (decide ((20 : Int) < (gs.length : Int))) with e3 | e3
                · go_wp2
                  go_ret
                  exact ⟨by first | exact ⟨_, rfl⟩ | simp, t3⟩
                · go_wp2
                  go_ret
                  exact ⟨by first | exact ⟨_, rfl⟩ | simp, t3⟩
        · have h4 : ¬ (j : Int) < (gs.length : Int) := by omega
          have t3 := Ext.trans t0 b2
          rcases Bool.eq_false_or_eq_true (decide ((6000 : Int) < z2)) with e1 | e1
          · go_wp2
            go_ret
            exact ⟨by first | exact ⟨_, rfl⟩ | simp, t3⟩
          · rcases Bool.eq_false_or_eq_true (decide ((1500 : Int) < (ys.length : Int))) with e2 | e2
            · go_wp2
              go_ret
              exact ⟨by first | exact ⟨_, rfl⟩ | simp, t3⟩
            · rcases Bool.eq_false_or_eq_true (decide ((20 : Int) < (gs.length : Int))) with e3 | e3
              · go_wp2
                go_ret
                exact ⟨by first | exact ⟨_, rfl⟩ | simp, t3⟩
              · go_wp2
                go_ret
                exact ⟨by first | exact ⟨_, rfl⟩ | simp, t3⟩
end Go.Proofs.Ytclbihcggjjgaaa
