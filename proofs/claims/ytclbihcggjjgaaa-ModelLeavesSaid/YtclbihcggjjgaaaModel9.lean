/- Layer 30 (model): the program: whether a crash may leave a value. -/
import Derived.Test.YtclbihcggjjgaaaModel8
namespace Go.Proofs.Ytclbihcggjjgaaa
open Go Go.RowKit
set_option linter.unusedSimpArgs false
set_option linter.unusedVariables false

/-- does a request that goes on write that there? -/
def hitB (n : Int) (ds : List UInt8) (g : GoTy.T) : Bool := (decide (atOf g ≤ n) && decide (n < atOf g + manyOf g)) && (kWrites ((kiOf g).toNat : Int) && (blk ((kiOf g).toNat : Int) (datOf g) (n - atOf g).toNat == ds))
def AskFit (g : GoTy.T) : Prop := ((0 ≤ atOf g ∧ atOf g ≤ 1000) ∧ (0 ≤ manyOf g ∧ manyOf g ≤ 8)) ∧ ((datOf g).length : Int) = kWant ((kiOf g).toNat : Int) (manyOf g)
theorem AskFit.of {x : Cfg} {ys : List (List (List UInt8))} {g : GoTy.T} (h : OneOk x ys g) : AskFit g := by
  obtain ⟨_, h, _⟩ := h
  obtain ⟨_, _, h1, h2, h3, _⟩ := askCode_0 h
  exact ⟨⟨h3, h2⟩, h1⟩

set_option maxRecDepth 100000 in
set_option maxHeartbeats 1000000 in
theorem left2_any (S : Nat → Prop) (g : GoTy.T) (hfit : AskFit g) (n : Int) (hn : 0 ≤ n ∧ n ≤ 1000) (Ab : Option Addr) (cg : Nat) (Am : Option Addr) (lm cm gb gd : Nat) (D : Option Addr) (dn dc : Nat) (ds : List UInt8) (w : World) (hb : RdIn w S (.sl .byte) (datOf g) [.slice Ab (datOf g).length cg]) (hd : Bs w D dn ds) (B1 : BoxOf w gb #[.int .i64 n] 3) (B2 : BoxOf w gd #[.slice D dn dc] 29) :
    Calls Try.prog 68 #[.agg #[.int .i64 (nuOf g), .int .u8 ((kiOf g).toNat : Int), .int .i64 (atOf g), .int .i64 (manyOf g), .slice Ab (datOf g).length cg, .slice Am lm cm], .pointer (some ⟨gb, 0, none⟩), .pointer (some ⟨gd, 0, none⟩)] w fun e w' => e = .returned (.bool (hitB n ds g)) ∧ Below w.heap.size w w' := by
  have P0 := BoxOf.new w #[.int .i64 (nuOf g), .int .u8 ((kiOf g).toNat : Int), .int .i64 (atOf g), .int .i64 (manyOf g), .slice Ab (datOf g).length cg, .slice Am lm cm] 64
  have t0 := Ext.alloc (Below.refl w.heap.size w) (.cells #[.int .i64 (nuOf g), .int .u8 ((kiOf g).toNat : Int), .int .i64 (atOf g), .int .i64 (manyOf g), .slice Ab (datOf g).length cg, .slice Am lm cm] 64)
  have C1 := B1.alloc (.cells #[.int .i64 (nuOf g), .int .u8 ((kiOf g).toNat : Int), .int .i64 (atOf g), .int .i64 (manyOf g), .slice Ab (datOf g).length cg, .slice Am lm cm] 64)
  have C2 := B2.alloc (.cells #[.int .i64 (nuOf g), .int .u8 ((kiOf g).toNat : Int), .int .i64 (atOf g), .int .i64 (manyOf g), .slice Ab (datOf g).length cg, .slice Am lm cm] 64)
  have HB := Lib.hid (hb.below t0)
  have HD := Lib.hid (hd.alloc (.cells #[.int .i64 (nuOf g), .int .u8 ((kiOf g).toNat : Int), .int .i64 (atOf g), .int .i64 (manyOf g), .slice Ab (datOf g).length cg, .slice Am lm cm] 64))
  clear hb hd B1 B2
  obtain ⟨⟨⟨ha0, ha1⟩, hm0, hm1⟩, hlen⟩ := hfit
  go_enter Try.func68, Try.ntmps68
  go_upto_region 1 with fail
  generalize w.alloc (.cells #[.int .i64 (nuOf g), .int .u8 ((kiOf g).toNat : Int), .int .i64 (atOf g), .int .i64 (manyOf g), .slice Ab (datOf g).length cg, .slice Am lm cm] 64) = W at *
  have x0 := P0.cell
  have y1 := C1.cell
  have y2 := C2.cell
  rcases Bool.eq_false_or_eq_true (decide (n - atOf g < 0)) with e1 | e1
  · have hr : hitB n ds g = false := by unfold hitB; rw [decide_eq_false (show ¬ atOf g ≤ n by have := of_decide_eq_true e1; omega)]; rfl
    have hw : wrap64 (n - atOf g) = n - atOf g := IntWalk.wrap64_in _ (by omega)
    clear hn ha0 ha1 hm0 hm1
    go_wp2
    go_ret
    exact ⟨by first | rfl | (rw [hr]; rfl), t0⟩
  · obtain ⟨i, hi⟩ : ∃ i : Nat, (i : Int) = n - atOf g := ⟨(n - atOf g).toNat, by have := of_decide_eq_false e1; omega⟩
    have hw : wrap64 (n - atOf g) = (i : Int) := by rw [hi]; exact IntWalk.wrap64_in _ (by omega)
    have hti : (n - atOf g).toNat = i := by omega
    have HI := Lib.hid hi
    have HTI := Lib.hid hti
    have hi1 : i < 1000 ∨ 1000 ≤ i := by omega
    rcases Bool.eq_false_or_eq_true (decide (manyOf g ≤ (i : Int))) with e2 | e2
    · have hr : hitB n ds g = false := by
        have h1 := of_decide_eq_true e2
        unfold hitB; rw [decide_eq_false (show ¬ n < atOf g + manyOf g by omega)]; simp
      clear hn ha0 ha1 hm0 hm1 hi hti e1 hi1
      go_wp2
      go_ret
      exact ⟨by first | rfl | (rw [hr]; rfl), t0⟩
    · have h2 := of_decide_eq_false e2
      have h1 := of_decide_eq_false e1
      have hi9 : i < 1000 := by omega
      have hbk : kBytes ((kiOf g).toNat : Int) = true → i * 128 + 128 ≤ (datOf g).length := by
        intro hk
        unfold kWant at hlen
        rw [hk] at hlen
        simp only [if_true] at hlen
        omega
      have HC := Lib.hid (swrites_any S _ (atOf g) (manyOf g) (datOf g) Ab cg i W HB.out hbk hi9)
      have hr : Hid (hitB n ds g = (kWrites ((kiOf g).toNat : Int) && (blk ((kiOf g).toNat : Int) (datOf g) i == ds))) := by
        show _ = _
        unfold hitB
        rw [HTI.out, decide_eq_true (show atOf g ≤ n by omega), decide_eq_true (show n < atOf g + manyOf g by omega)]
        rfl
      clear hn ha0 ha1 hm0 hm1 hi hti e1 hi1 h1 h2 hlen hbk hi9
      go_wp2_with fail
      refine HC.out.mono ?_
      rintro e w1 ⟨⟨E, en, eq, rfl, hR⟩, b1⟩
      have z1 := (P0.next b1).cell
      have z2 := (C2.next b1).cell
      have HD1 := Lib.hid (HD.out.below b1)
      have t1 := Ext.trans t0 b1
      cases hkw : kWrites ((kiOf g).toNat : Int) with
      | false =>
        have hr' : hitB n ds g = false := by rw [hr.out, hkw]; rfl
        clear hkw hr hR
        go_wp2
        go_ret
        exact ⟨by first | rfl | (rw [hr']; rfl), t1⟩
      | true =>
        have hr' : Hid (hitB n ds g = (blk ((kiOf g).toNat : Int) (datOf g) i == ds)) := by show _ = _; rw [hr.out, hkw]; simp
        have HE := Lib.hid (eqb_any E D en dn eq dc _ ds w1 (hR hkw).bytes_bs HD1.out)
        clear hkw hr hR
        go_wp2_with fail
        refine HE.out.mono ?_
        rintro e w2 ⟨rfl, rfl⟩
        go_wp2
        go_ret
        exact ⟨by rw [hr'.out]; rfl, t1⟩

set_option maxRecDepth 100000 in
set_option maxHeartbeats 2000000 in
theorem idxg_left (S : Nat → Prop) (gs : List GoTy.T) (B : Option Addr) (d : Nat) (n : Int) (hn : 0 ≤ n ∧ n ≤ 1000) (gb gd : Nat) (D : Option Addr) (dn dc : Nat) (ds : List UInt8) (w : World) (hg : RdIn w S (.sl GoTy) gs [.slice B gs.length d]) (hd : Bs w D dn ds) (B1 : BoxOf w gb #[.int .i64 n] 3) (B2 : BoxOf w gd #[.slice D dn dc] 29) (hfit : ∀ i (h : i < gs.length), AskFit gs[i]) :
    Calls Try.prog 56 #[.slice B gs.length d, .func (.func 68) #[] #[.pointer (some ⟨gb, 0, none⟩), .pointer (some ⟨gd, 0, none⟩)]] w fun e w' => AtIs (SomeIs (hitB n ds) gs) e ∧ Below w.heap.size w w' := by
  have HG := Lib.hid hg
  have HGM := Lib.hid (go_max hg)
  have HLE : Hid (∀ w', Below w.heap.size w w' → ∀ (g : GoTy.T) (Ab : Option Addr) (cg : Nat) (Am : Option Addr) (lm cm : Nat), AskFit g → RdIn w' S (.sl .byte) (datOf g) [.slice Ab (datOf g).length cg] → Calls Try.prog 68 #[.agg #[.int .i64 (nuOf g), .int .u8 ((kiOf g).toNat : Int), .int .i64 (atOf g), .int .i64 (manyOf g), .slice Ab (datOf g).length cg, .slice Am lm cm], .pointer (some ⟨gb, 0, none⟩), .pointer (some ⟨gd, 0, none⟩)] w' fun e w'' => e = .returned (.bool (hitB n ds g)) ∧ Below w'.heap.size w' w'') := fun w' bb g Ab cg Am lm cm hf hr => left2_any S g hf n hn Ab cg Am lm cm gb gd D dn dc ds w' hr (hd.below bb) (B1.next bb) (B2.next bb)
  clear hg
  go_enter Try.func56, Try.ntmps56
  go_upto_region 1 with fail
  obtain ⟨W, hW⟩ : ∃ z : World, z = w := ⟨_, rfl⟩
  have b0 : Below W.heap.size W w := by rw [hW]; exact Below.refl _ _
  have HWW := Lib.hid hW
  rw [← hW] at HG
  clear hW
  go_wp2
  go_loopw [5, 8] (fun v i wr => ∃ (j : Nat), j ≤ gs.length ∧ i = .int .i64 j ∧ Below W.heap.size W wr ∧ Hid (∀ i, i < j → NotAt (hitB n ds) gs i)) (fun _ i _ => gs.length - (intOf i).toNat)
  case atStart => exact ⟨0, by omega, rfl, b0, fun i h => absurd h (Nat.not_lt_zero _)⟩
  case round =>
    obtain ⟨j, hj, rfl, b1, HA⟩ := hrel
    clear b0
    have bw : Below w.heap.size w wr := by have := HWW.out; subst this; exact b1
    by_cases hlt : j < gs.length
    · obtain ⟨b, off, Ab, cg, Am, cm, rfl, q0, q1, q2, q3, q4, q5, i0, i1, i2, rb, rm⟩ := go_at (HG.out.below b1) hlt
      have HSK : Hid (NotAt (hitB n ds) gs j ↔ (hitB n ds) gs[j] = false) := ⟨fun h => h hlt, fun h _ => h⟩
      have HSY : Hid ((hitB n ds) gs[j] = true → SomeIs (hitB n ds) gs) := fun h => ⟨j, hlt, h⟩
      have HFG := Lib.hid (hfit j hlt)
      generalize gs[j] = g at *
      have HWJ := next_wrap HGM.out hlt
      have HLJ := Lib.hid hlt
      have HRB := Lib.hid rb
      clear rb rm i0 i1 i2
      rcases Bool.eq_false_or_eq_true ((hitB n ds) g) with e1 | e1
      · have HF := Lib.hid (HSY.out e1)
        skip
        go_wp2_with (go_at_call 68; refine (HLE.out _ bw _ _ _ _ _ _ HFG.out HRB.out).mono ?_; rintro e w3 ⟨rfl, b3⟩)
        go_ret
        exact ⟨AtIs.at HF.out, Ext.trans bw b3⟩
      · have HA' : Hid (∀ i, i < j + 1 → NotAt (hitB n ds) gs i) := by
          intro i hi
          by_cases h : i = j
          · subst h
            exact HSK.out.2 e1
          · exact HA.out i (by omega)
        skip
        go_wp2_with (go_at_call 68; refine (HLE.out _ bw _ _ _ _ _ _ HFG.out HRB.out).mono ?_; rintro e w3 ⟨rfl, b3⟩)
        have b5 := Ext.trans b1 b3
        go_roundw
        case rel => exact ⟨j + 1, HLJ.out, by first | exact round_same HWJ | go_num, b5, HA'⟩
        case measure => first | exact round_less HWJ HLJ.out | (have h := HLJ.out; simp [intOf]; omega)
    · have HN := Lib.hid (SomeIs.not HA.out hlt)
      go_wp2
      go_ret
      exact ⟨AtIs.not HN.out, bw⟩
theorem hasg_left (S : Nat → Prop) (gs : List GoTy.T) (B : Option Addr) (d : Nat) (n : Int) (hn : 0 ≤ n ∧ n ≤ 1000) (gb gd : Nat) (D : Option Addr) (dn dc : Nat) (ds : List UInt8) (w : World) (hg : RdIn w S (.sl GoTy) gs [.slice B gs.length d]) (hd : Bs w D dn ds) (B1 : BoxOf w gb #[.int .i64 n] 3) (B2 : BoxOf w gd #[.slice D dn dc] 29) (hfit : ∀ i (h : i < gs.length), AskFit gs[i]) :
    Calls Try.prog 60 #[.slice B gs.length d, .func (.func 68) #[] #[.pointer (some ⟨gb, 0, none⟩), .pointer (some ⟨gd, 0, none⟩)]] w fun e w' => YesNo (SomeIs (hitB n ds) gs) e ∧ Below w.heap.size w w' := by
  have HC := Lib.hid (idxg_left S gs B d n hn gb gd D dn dc ds w hg hd B1 B2 hfit)
  clear hg hd B1 B2 hfit hn
  go_enter Try.func60, Try.ntmps60
  go_wp2_with fail
  refine HC.out.mono ?_
  rintro e w1 ⟨⟨n, rfl, hn⟩, b1⟩
  have HN := Lib.hid hn
  clear hn
  go_wp2
  go_ret
  exact ⟨YesNo.of (by rw [decide_eq_true_iff]; exact HN.out), b1⟩

def LeftP (ys : List (List (List UInt8))) (gs : List GoTy.T) (n : Nat) (ds : List UInt8) : Prop := (∃ h : n < ys.length, SomeIs (eqBs ds) ys[n]) ∨ SomeIs (hitB n ds) gs
set_option maxRecDepth 100000 in
set_option maxHeartbeats 1000000 in
theorem sleft_any (S : Nat → Prop) (ys : List (List (List UInt8))) (gs : List GoTy.T) (A : Option Addr) (c : Nat) (B : Option Addr) (d : Nat) (n : Nat) (hn : n < ys.length) (hyl : ys.length ≤ 1000) (hfit : ∀ i (h : i < gs.length), AskFit gs[i]) (D : Option Addr) (dn dc : Nat) (ds : List UInt8) (w : World) (hy : RdIn w S (.sl (.sl (.sl .byte))) ys [.slice A ys.length c]) (hg : RdIn w S (.sl GoTy) gs [.slice B gs.length d]) (hd : Bs w D dn ds) :
    Calls Try.prog 39 #[.agg #[.slice A ys.length c, .slice B gs.length d], .int .i64 (n : Int), .slice D dn dc] w fun e w' => YesNo (LeftP ys gs n ds) e ∧ Below w.heap.size w w' := by
  have P0 := BoxOf.alloc (BoxOf.alloc (BoxOf.new w #[.slice A ys.length c, .slice B gs.length d] 28) (.cells #[.int .i64 (n : Int)] 3)) (.cells #[.slice D dn dc] 29)
  have B1 := BoxOf.alloc (BoxOf.new' (w.alloc (.cells #[.slice A ys.length c, .slice B gs.length d] 28)) (w.heap.size + 1) #[.int .i64 (n : Int)] 3 (by simp)) (.cells #[.slice D dn dc] 29)
  have B2 := BoxOf.new' ((w.alloc (.cells #[.slice A ys.length c, .slice B gs.length d] 28)).alloc (.cells #[.int .i64 (n : Int)] 3)) (w.heap.size + 2) #[.slice D dn dc] 29 (by simp)
  have t0 := Ext.alloc (Ext.alloc (Ext.alloc (Below.refl w.heap.size w) (.cells #[.slice A ys.length c, .slice B gs.length d] 28)) (.cells #[.int .i64 (n : Int)] 3)) (.cells #[.slice D dn dc] 29)
  have HG := Lib.hid (hg.below t0)
  have HD := Lib.hid (hd.below t0)
  have HF := Lib.hid hfit
  have HN := Lib.hid (And.intro hn hyl)
  obtain ⟨b, off, A2, c2, rfl, q2, r2⟩ := may_at (hy.below t0) hn
  have HK : Hid (LeftP ys gs n ds ↔ (SomeIs (eqBs ds) ys[n] ∨ SomeIs (hitB n ds) gs)) := by
    show _ ↔ _
    unfold LeftP
    exact ⟨fun h => h.elim (fun h => .inl h.2) .inr, fun h => h.elim (fun h => .inl ⟨hn, h⟩) .inr⟩
  generalize ys[n] = zs at *
  have HR := Lib.hid r2
  clear hy hg hd hfit r2
  have hmf : ∀ (fn : Fn) (first cap : Array Value) (w : World), (Instr.makeFunc fn first cap).run Try.prog w = .ok (.func fn first cap) w := fun _ _ _ _ => rfl
  go_enter Try.func39, Try.ntmps39
  go_upto_region 1 with fail
  obtain ⟨gd, hgd⟩ : ∃ z : Nat, z = w.heap.size + 2 := ⟨_, rfl⟩
  rw [← hgd] at B2
  generalize ((w.alloc (.cells #[.slice (some ⟨b, off, none⟩) ys.length c, .slice B gs.length d] 28)).alloc (.cells #[.int .i64 (n : Int)] 3)).alloc (.cells #[.slice D dn dc] 29) = W at *
  have x0 := P0.cell
  have y0 := B1.cell
  have z0 := B2.cell
  have HC := Lib.hid (has_left S zs A2 c2 gd D dn dc ds W HR.out HD.out B2)
  have hnl := HN.out.1
  go_wp2_with fail
  rw [← hgd]
  refine HC.out.mono ?_
  rintro e w1 ⟨⟨v1, rfl, hv⟩, b1⟩
  have P1 := P0.next b1
  have C1 := B1.next b1
  have C2 := B2.next b1
  have x1 := P1.cell
  have t1 := Ext.trans t0 b1
  have HV := Lib.hid hv
  clear hv x0 y0 z0 q2
  cases v1 with
  | true =>
    go_wp2
    go_ret
    exact ⟨YesNo.yes (HK.out.2 (.inl (HV.out.1 (by first | rfl | trivial)))), t1⟩
  | false =>
    have HC2 := Lib.hid (hasg_left S gs B d (n : Int) (by have := HN.out; omega) (w.heap.size + 1) gd D dn dc ds w1 (HG.out.below b1) (HD.out.below b1) C1 C2 HF.out)
    go_wp2_with fail
    rw [← hgd]
    refine HC2.out.mono ?_
    rintro e w2 ⟨⟨v2, rfl, hv2⟩, b2⟩
    have t2 := Ext.trans t1 b2
    have HV2 := Lib.hid hv2
    clear hv2
    go_wp2
    go_ret
    refine ⟨YesNo.of ?_, t2⟩
    rw [HK.out]
    constructor
    · intro h; exact .inr (HV2.out.1 h)
    · rintro (h | h)
      · have := HV.out.2 h; cases this
      · exact HV2.out.2 h
end Go.Proofs.Ytclbihcggjjgaaa
