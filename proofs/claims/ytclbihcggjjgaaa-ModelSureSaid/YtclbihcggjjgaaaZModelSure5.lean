/- What this claim needs of my texts, merged (part 5). -/
import Derived.Test.YtclbihcggjjgaaaZModelSure4
/- Layer 30 (model): ModelSure: what a fua, and a flush, make sure. -/
namespace Go.Proofs.Ytclbihcggjjgaaa
open Go Go.RowKit
set_option linter.unusedSimpArgs false
set_option linter.unusedVariables false

theorem beq_of_iff {a b : Bool} (h : a = true ↔ b = true) : (a == b) = true := by
  cases a <;> cases b <;> simp_all
/-- what the statement's 'a' is, after q rounds -/
def sureA (number : Int) (g : GoTy.T) (Ag : Option Addr) (cg : Nat) (Am : Option Addr) (cm a y j q : Nat) : Array Value := if q ≤ j then #[.int .i64 0, .int .u8 0, .int .i64 0, .int .i64 0, .slice none 0 0, .slice none 0 0] else #[.int .i64 number, .int .u8 ((kiOf g).toNat : Int), .int .i64 (a : Int), .int .i64 (y : Int), .slice Ag (datOf g).length cg, .slice Am (mksOf g).length cm]
set_option maxRecDepth 100000 in
set_option maxHeartbeats 40000000 in
theorem sure_core (S : Nat → Prop) (x : Cfg) (ys : Ys) (gs : List GoTy.T) (A : Option Addr) (ca : Nat) (B : Option Addr) (cb : Nat) (number n : Int) (D : Option Addr) (dc : Nat) (ds : List UInt8) (w : World) (hy : RdIn w S (.sl (.sl (.sl .byte))) ys [.slice A ys.length ca]) (hg : RdIn w S (.sl GoTy) gs [.slice B gs.length cb]) (hd : RdIn w S (.sl .byte) ds [.slice D ds.length dc]) :
    Calls Try.prog 6 #[x.val, .agg #[.slice A ys.length ca, .slice B gs.length cb], .int .i64 number, .int .i64 n, .slice D ds.length dc] w fun e w' => e = .returned (.bool true) ∧ Below w.heap.size w w' := by
  have HY := Lib.hid hy
  have HG := Lib.hid hg
  have HD := Lib.hid hd
  have HGM := Lib.hid (go_max hg)
  clear hy hg hd
  obtain ⟨id, m, c, r, l, h⟩ := x
  unfold Cfg.val at *
  dsimp only at *
  have C0 := BoxOf.alloc (BoxOf.new w #[.int .u32 (id : Int), .int .i64 m, .int .i64 c, .int .i64 r, .int .i64 l, .int .i64 h] 24) (.cells #[.slice A ys.length ca, .slice B gs.length cb] 28)
  have P0 := BoxOf.new' (w.alloc (.cells #[.int .u32 (id : Int), .int .i64 m, .int .i64 c, .int .i64 r, .int .i64 l, .int .i64 h] 24)) (w.heap.size + 1) #[.slice A ys.length ca, .slice B gs.length cb] 28 (by simp)
  have t0 := Ext.alloc (Ext.alloc (Below.refl w.heap.size w) (.cells #[.int .u32 (id : Int), .int .i64 m, .int .i64 c, .int .i64 r, .int .i64 l, .int .i64 h] 24)) (.cells #[.slice A ys.length ca, .slice B gs.length cb] 28)
  go_enter Try.func6, Try.ntmps6
  go_upto_region 1 with fail
  generalize (w.alloc (.cells #[.int .u32 (id : Int), .int .i64 m, .int .i64 c, .int .i64 r, .int .i64 l, .int .i64 h] 24)).alloc (.cells #[.slice A ys.length ca, .slice B gs.length cb] 28) = W at *
  go_wp2_with fail
  refine (alive30_any _).mono ?_
  rintro e wa ⟨rfl, ba⟩
  have Ca := C0.next ba
  have Pa := P0.next ba
  have ta := Ext.trans t0 ba
  have ya := Pa.cell
  clear C0 P0 t0 ba
  go_wp2_with fail
  refine (rgreat_any S ys gs A ca B cb wa (HY.out.below ta) (HG.out.below ta)).mono ?_
  rintro e w1 ⟨⟨b, rfl⟩, b1⟩
  have C1 := Ca.next b1
  have P1 := Pa.next b1
  have t1 := Ext.trans ta b1
  clear ya Ca Pa ta b1
  cases b with
  | true =>
    go_wp2
    go_ret
    exact ⟨rfl, t1⟩
  | false =>
    rcases Bool.eq_false_or_eq_true ((ds.length : Int) != 128) with e1 | e1
    · go_wp2
      go_ret
      exact ⟨rfl, t1⟩
    · have HDL : Hid (ds.length = 128) := by have h1 : (ds.length : Int) = 128 := (by simpa using e1)
                                             show _ = _
                                             omega
      have c1 := C1.cell
      have p1 := P1.cell
      go_wp2_with fail
      refine (send0_any S ⟨id, m, c, r, l, h⟩ ys gs A ca B cb number w1 (HY.out.below t1) (HG.out.below t1)).mono ?_
      rintro e w2 ⟨⟨v, zs, hs, rn, dat, many, A', c', B', d', DD, dq, rfl, hrel, rz, rh, rd⟩, b2⟩
      have HREL := Lib.hid hrel
      have C2 := C1.next b2
      have P2' := P1.next b2
      have t2 := Ext.trans t1 b2
      have X3 := BoxOf.alloc (BoxOf.new w2 #[.slice A' zs.length c', .slice B' hs.length d'] 28) (.cells #[.int .i64 rn, .int .i64 0, .slice DD dat.length dq, .int .i64 many] 53)
      have b3 := Ext.alloc (Ext.alloc (Below.refl w2.heap.size w2) (.cells #[.slice A' zs.length c', .slice B' hs.length d'] 28)) (.cells #[.int .i64 rn, .int .i64 0, .slice DD dat.length dq, .int .i64 many] 53)
      have C3 := C2.next b3
      have P3 := P2'.next b3
      have t3 := Ext.trans t2 b3
      have HRZ := Lib.hid (rz.below b3)
      have HRH := Lib.hid (rh.below b3)
      clear hrel rz rh rd c1 p1 C1 P1 t1 e1 b2 C2 P2' t2
      go_upto_region 5 with fail
      have h12 := b3.size
      obtain ⟨gx, hgx⟩ : ∃ z : Nat, z = w2.heap.size := ⟨_, rfl⟩
      rw [← hgx] at X3 ⊢
      clear hgx b3 h12
      generalize (w2.alloc (.cells #[.slice A' zs.length c', .slice B' hs.length d'] 28)).alloc (.cells #[.int .i64 rn, .int .i64 0, .slice DD dat.length dq, .int .i64 many] 53) = w3 at *
      have c3 := C3.cell
      have x3 := X3.cell
      go_wp2_with fail
      refine (smay_any _ ⟨id, m, c, r, l, h⟩ zs hs A' c' B' d' n D dc ds w3 HRZ.out HRH.out (HD.out.below t3).bytes_bs).mono ?_
      rintro e w4 ⟨⟨is, v2, rfl, hmay⟩, b4⟩
      have HMAY := Lib.hid hmay
      have C4 := C3.next b4
      have P4 := P3.next b4
      have X4 := X3.next b4
      have t4 := Ext.trans t3 b4
      have HRZ4 := Lib.hid (HRZ.out.below b4)
      have HRH4 := Lib.hid (HRH.out.below b4)
      clear hmay c3 x3 C3 P3 X3 t3 b4 HRZ HRH
      rcases Bool.eq_false_or_eq_true (v != 0) with e2 | e2
      · go_wp2
        go_ret
        exact ⟨rfl, t4⟩
      · rcases Bool.eq_false_or_eq_true (v2 != 0) with e3 | e3
        · go_wp2
          go_ret
          exact ⟨rfl, t4⟩
        · obtain ⟨hv0, hv2⟩ : v = 0 ∧ v2 = 0 := ⟨by simpa using e2, by simpa using e3⟩
          have HF : Hid (PlainOk ⟨id, m, c, r, l, h⟩ ys gs ∧ ∃ j, ∃ h : j < gs.length, nuOf gs[j] = number ∧ endAll ys gs j = some ((zs, hs), dat)) := by
            rcases HREL.out with h1 | h1 | h1 | h1
            · have := h1.2.1; omega
            · have := h1.2.2.1; omega
            · have := h1.2.2.1; omega
            · obtain ⟨h1, ⟨j, hj, h2, h3, _⟩, _⟩ := h1
              exact ⟨h1, j, hj, h2, h3⟩
          have HM0 : Hid ((0 ≤ n ∧ n < (zs.length : Int)) ∧ (is = true ↔ LeftP zs hs n.toNat ds)) := by
            rcases HMAY.out with h1 | h1 | h1 | h1
            · have := h1.2.2; omega
            · have := h1.2.2.2; omega
            · have := h1.2.2.2.2; omega
            · exact ⟨h1.2.1, h1.2.2.2.1⟩
          obtain ⟨hok, j, hj, hnu, hall⟩ := HF.out
          obtain ⟨a, y, hea⟩ := endAll_at hok hj hall
          have HOK := Lib.hid hok
          have HJ := Lib.hid hj
          obtain ⟨bA, oA, Ag, cg, Am, cm, rfl, z0, z1, z2, z3, z4, z5, i0, i1, i2, hrb, hrm⟩ := go_at (HG.out.below t4) hj
          obtain ⟨g, hgj⟩ : ∃ g, g = gs[j]'hj := ⟨_, rfl⟩
          rw [← hgj] at hea hnu hrb hrm i0 i1 i2 z0 z1 z2 z3 z4 z5
          rw [hea.ha] at z2
          rw [hea.hy] at z3
          rw [hnu] at z0
          have HZ := Lib.hid (And.intro z0 (And.intro z1 (And.intro z2 (And.intro z3 (And.intro z4 z5)))))
          have HGJ : Hid (∃ h : j < gs.length, g = gs[j]) := ⟨hj, hgj⟩
          have HEA := Lib.hid hea
          have HNU := Lib.hid hnu
          have HRB := Lib.hid hrb
          have HRM := Lib.hid hrm
          have HII := Lib.hid (And.intro i0 (And.intro i1 i2))
          clear i0 i1 i2 hrb hrm z0 z1 z2 z3 z4 z5
          obtain ⟨nn, hnn⟩ : ∃ nn : Nat, n = (nn : Int) := ⟨n.toNat, by have := HM0.out.1; omega⟩
          subst hnn
          have HM1 : Hid (nn < ys.length ∧ (is = true ↔ LeftP zs hs nn ds)) := by
            have h1 := HM0.out
            have h2 := HEA.out.len
            refine ⟨by omega, ?_⟩
            have h3 := h1.2
            rwa [Int.toNat_natCast] at h3
          clear hgj hok hj hnu hall hea HF HM0 HREL HMAY e2 e3
          subst hv0 hv2
          have HP4 := Lib.hid P4
          have HC4 := Lib.hid C4
          have HX4 := Lib.hid X4
          have HT4 := Lib.hid t4
          have ga4 := BoxOf.new w4 #[.int .i64 0, .int .u8 0, .int .i64 0, .int .i64 0, .slice none 0 0, .slice none 0 0] 64
          have b5 := Ext.alloc (Below.refl w4.heap.size w4) (.cells #[.int .i64 0, .int .u8 0, .int .i64 0, .int .i64 0, .slice none 0 0, .slice none 0 0] 64)
          have C5 := C4.next b5
          have P5 := P4.next b5
          have X5 := X4.next b5
          have t5 := Ext.trans t4 b5
          go_upto_region 9 with fail
          obtain ⟨ga, hga⟩ : ∃ z : Nat, z = w4.heap.size := ⟨_, rfl⟩
          rw [← hga] at ga4 ⊢
          have HGA := Lib.hid hga
          have HB5 := Lib.hid b5
          clear hga b5 C4 P4 X4 t4
          generalize w4.alloc (.cells #[.int .i64 0, .int .u8 0, .int .i64 0, .int .i64 0, .slice none 0 0, .slice none 0 0] 64) = w5 at *
          have hjl : j < gs.length := HJ.out
          go_wp2
          clear hjl
          go_loopw [18] (fun i wr => ∃ (q : Nat), q ≤ gs.length ∧ i = .int .i64 q ∧ Below w4.heap.size w4 wr ∧ BoxOf wr ga (sureA number g Ag cg Am cm a y j q) 64) (fun i _ => gs.length - (intOf i).toNat)
          case atStart => exact ⟨0, by omega, rfl, HB5.out, by unfold sureA; rw [if_pos (Nat.zero_le _)]; exact ga4⟩
          case round =>
            obtain ⟨q, hq, rfl, b6, A6⟩ := hrel
            clear ga4
            have HP6 : Hid (BoxOf wr (w.heap.size + 1) #[.slice A ys.length ca, .slice (some ⟨bA, oA, none⟩) gs.length cb] 28) := HP4.out.next b6
            have hp6 := HP6.out.cell
            by_cases hlt : q < gs.length
            · have HWJ := next_wrap HGM.out hlt
              have HLJ := Lib.hid hlt
              by_cases hqj : q = j
              · subst hqj
                obtain ⟨z0, z1, z2, z3, z4, z5⟩ := HZ.out
                have z0' := (b6.cell (block_lt_of_cell z0)).trans z0
                have z1' := (b6.cell (block_lt_of_cell z1)).trans z1
                have z2' := (b6.cell (block_lt_of_cell z2)).trans z2
                have z3' := (b6.cell (block_lt_of_cell z3)).trans z3
                have z4' := (b6.cell (block_lt_of_cell z4)).trans z4
                have z5' := (b6.cell (block_lt_of_cell z5)).trans z5
                have hA6 : BoxOf wr ga #[.int .i64 0, .int .u8 0, .int .i64 0, .int .i64 0, .slice none 0 0, .slice none 0 0] 64 := by
                  have e : sureA number g Ag cg Am cm a y q q = #[.int .i64 0, .int .u8 0, .int .i64 0, .int .i64 0, .slice none 0 0, .slice none 0 0] := by unfold sureA; rw [if_pos (Nat.le_refl _)]
                  rw [← e]; exact A6
                have fa := hA6.free
                have xa := hA6.cell
                clear z0 z1 z2 z3 z4 z5 A6
                have hA7 : Hid (BoxOf (set6 wr ga (.int .i64 number) (.int .u8 ((kiOf g).toNat : Int)) (.int .i64 (a : Int)) (.int .i64 (y : Int)) (.slice Ag (datOf g).length cg) (.slice Am (mksOf g).length cm)) ga (sureA number g Ag cg Am cm a y q (q + 1)) 64) := by
                  have e : sureA number g Ag cg Am cm a y q (q + 1) = #[.int .i64 number, .int .u8 ((kiOf g).toNat : Int), .int .i64 (a : Int), .int .i64 (y : Int), .slice Ag (datOf g).length cg, .slice Am (mksOf g).length cm] := by unfold sureA; rw [if_neg (by omega)]
                  rw [e]
                  exact set6_self hA6 _ _ _ _ _ _
                have hT7 : Hid (Below w4.heap.size w4 (set6 wr ga (.int .i64 number) (.int .u8 ((kiOf g).toNat : Int)) (.int .i64 (a : Int)) (.int .i64 (y : Int)) (.slice Ag (datOf g).length cg) (.slice Am (mksOf g).length cm))) := set6_below b6 (Nat.le_of_eq HGA.out.symm) _ _ _ _ _ _
                go_wp2
                go_roundw
                case rel => exact ⟨q + 1, HLJ.out, by first | exact round_same HWJ | go_num, hT7.out, hA7.out⟩
                case measure => first | exact round_less HWJ HLJ.out | (have h := HLJ.out; simp [intOf]; omega)
              · obtain ⟨bA', oA', Ab, cg', Am', cm', hBA, q0, q1, q2, q3, q4, q5, i0, i1, i2, rb, rm⟩ := go_at (HG.out.below (Ext.trans HT4.out b6)) hlt
                injection hBA with hBA
                injection hBA with e1 e2
                subst e1 e2
                have hnn : (nuOf gs[q] == number) = false := by
                  rw [beq_eq_false_iff_ne]
                  intro e
                  obtain ⟨hj, hgj⟩ := HGJ.out
                  exact hqj (HOK.out.one hlt hj (e.trans (HNU.out.symm.trans (congrArg nuOf hgj))))
                have hA7 : Hid (BoxOf wr ga (sureA number g Ag cg Am cm a y j (q + 1)) 64) := by
                  have e : sureA number g Ag cg Am cm a y j (q + 1) = sureA number g Ag cg Am cm a y j q := by
                    unfold sureA
                    by_cases h1 : q ≤ j
                    · rw [if_pos h1, if_pos (by omega)]
                    · rw [if_neg h1, if_neg (by omega)]
                  rw [e]
                  exact A6
                have HB6 := Lib.hid b6
                generalize nuOf gs[q] = nq at *
                clear q1 q2 q3 q4 q5 i0 i1 i2 rb rm hqj A6 b6
                go_wp2
                go_roundw
                case rel => exact ⟨q + 1, HLJ.out, by first | exact round_same HWJ | go_num, HB6.out, hA7.out⟩
                case measure => first | exact round_less HWJ HLJ.out | (have h := HLJ.out; simp [intOf]; omega)
            · have hA6 : BoxOf wr ga #[.int .i64 number, .int .u8 ((kiOf g).toNat : Int), .int .i64 (a : Int), .int .i64 (y : Int), .slice Ag (datOf g).length cg, .slice Am (mksOf g).length cm] 64 := by
                have e : sureA number g Ag cg Am cm a y j q = #[.int .i64 number, .int .u8 ((kiOf g).toNat : Int), .int .i64 (a : Int), .int .i64 (y : Int), .slice Ag (datOf g).length cg, .slice Am (mksOf g).length cm] := by unfold sureA; rw [if_neg (by have := HJ.out; omega)]
                rw [← e]; exact A6
              have HC6 := Lib.hid (HC4.out.next b6)
              have HX6 := Lib.hid (HX4.out.next b6)
              have HT6 := Lib.hid (Ext.trans HT4.out b6)
              have HB6 := Lib.hid b6
              have hx6 := HX6.out.cell
              have HHM := Lib.hid (go_max HRH4.out)
              have HA6 := Lib.hid hA6
              clear A6 hA6 b6
              obtain ⟨wo, rfl⟩ : ∃ z : World, z = wr := ⟨_, rfl⟩
              go_wp2
              clear hlt hq hp6 hx6
              go_loopw [19, 20] (fun gv i wr => ∃ (q : Nat) (gb : Bool), q ≤ hs.length ∧ i = .int .i64 q ∧ gv = .bool gb ∧ Hid (gb = true ↔ true ∈ (hs.take q).map (hitB (nn : Int) ds)) ∧ Below wo.heap.size wo wr) (fun _ i _ => hs.length - (intOf i).toNat)
              case atStart => exact ⟨0, false, by omega, rfl, rfl, by show _ ↔ _; simp, Below.refl _ _⟩
              case round =>
                obtain ⟨q, gb, hq, rfl, rfl, hgb, b7⟩ := hrel
                have hx7 := (HX6.out.next b7).cell
                by_cases hlt : q < hs.length
                · have HWJ := next_wrap HHM.out hlt
                  have HLJ := Lib.hid hlt
                  obtain ⟨hb, ho, Ah, ch, Amh, cmh, rfl, q0, q1, q2, q3, q4, q5, i0, i1, i2, rb, rm⟩ := go_at (HRH4.out.below (Ext.trans HB6.out b7)) hlt
                  have HFITS := Lib.hid (HEA.out.ok.fit q hlt)
                  have HST : Hid (∀ e : Bool, ((gb || e) = true ↔ true ∈ (hs.take (q + 1)).map (hitB (nn : Int) ds)) ↔ ((gb || e) = true ↔ (gb = true ∨ hitB (nn : Int) ds hs[q] = true))) := fun e => by
                    rw [List.take_succ_eq_append_getElem hlt, List.map_append, List.mem_append, ← hgb.out, List.map_singleton, List.mem_singleton]
                    exact ⟨fun h => h.trans (or_congr Iff.rfl ⟨fun h => h.symm, fun h => h.symm⟩), fun h => h.trans (or_congr Iff.rfl ⟨fun h => h.symm, fun h => h.symm⟩)⟩
                  generalize hs[q] = hq1 at *
                  have HRB1 := Lib.hid rb
                  clear q0 q5 i0 i1 i2 rb rm hq
                  have hX7 := HX6.out.next b7
                  have hn9 : nn ≤ 1000 := by have := HM1.out.1; have := HOK.out.short; omega
                  have hsub : IntKind.i64.wrap ((nn : Int) - atOf hq1) = (nn : Int) - atOf hq1 := i64_fit (by have := HFITS.out.1.1; omega)
                  have HN9 := Lib.hid hn9
                  clear hn9
                  go_upto_region 18 with fail
                  have HS : Hid (∀ w', Below wr.heap.size wr w' → (Below wr.heap.size wr w' ∧ (∀ p, w'.cell? ⟨gx, p, none⟩ = (#[.slice A' zs.length c', .slice (some ⟨hb, ho, none⟩) hs.length d'] : Array Value).toList[p]?) ∧ w'.cell? ⟨hb, ho + q * 6 + 1, none⟩ = some (.int .u8 ((kiOf hq1).toNat : Int)) ∧ w'.cell? ⟨hb, ho + q * 6 + 2, none⟩ = some (.int .i64 (atOf hq1)) ∧ w'.cell? ⟨hb, ho + q * 6 + 3, none⟩ = some (.int .i64 (manyOf hq1)) ∧ w'.cell? ⟨hb, ho + q * 6 + 4, none⟩ = some (.slice Ah (datOf hq1).length ch))) := fun w' b => ⟨b, (hX7.next b).cell, (b.cell (block_lt_of_cell q1)).trans q1, (b.cell (block_lt_of_cell q2)).trans q2, (b.cell (block_lt_of_cell q3)).trans q3, (b.cell (block_lt_of_cell q4)).trans q4⟩
                  refine wp_region_held_drew (S := fun w' => Below wr.heap.size wr w' ∧ (∀ p, w'.cell? ⟨gx, p, none⟩ = (#[.slice A' zs.length c', .slice (some ⟨hb, ho, none⟩) hs.length d'] : Array Value).toList[p]?) ∧ w'.cell? ⟨hb, ho + q * 6 + 1, none⟩ = some (.int .u8 ((kiOf hq1).toNat : Int)) ∧ w'.cell? ⟨hb, ho + q * 6 + 2, none⟩ = some (.int .i64 (atOf hq1)) ∧ w'.cell? ⟨hb, ho + q * 6 + 3, none⟩ = some (.int .i64 (manyOf hq1)) ∧ w'.cell? ⟨hb, ho + q * 6 + 4, none⟩ = some (.slice Ah (datOf hq1).length ch)) (by kernel_rfl) (HS.out _ (Ext.drew (Below.refl _ _))) (fun hS => ?_)
                  obtain ⟨wd, hwd⟩ : ∃ z : World, z = wr.drew := ⟨_, rfl⟩
                  rw [← hwd] at hS ⊢
                  have HWD := Lib.hid hwd
                  clear hwd
                  refine wpAnyH_take (i := 0) (oi := _) (v := ?_) rfl (by kernel_rfl) (by kernel_rfl) (by kernel_rfl) (fun _ _ _ h => h) (Or.inl ⟨by rfl, ?_⟩) hS ?_
                  rotate_left
                  · (intro w hSw; (try dsimp only at hSw); go_simp; (try with_reducible rfl))
                  rotate_left
                  simp only [Act.put, List.getElem_toArray, List.getElem_cons_zero, List.getElem_cons_succ, List.setIfInBounds_toArray, List.set_cons_zero, List.set_cons_succ]
                  refine wpAnyH_take (i := 1) (oi := _) (v := ?_) rfl (by kernel_rfl) (by kernel_rfl) (by kernel_rfl) (fun _ _ _ h => h) (Or.inl ⟨by rfl, ?_⟩) hS ?_
                  rotate_left
                  · (intro w hSw; (try dsimp only at hSw); go_simp; (try with_reducible rfl))
                  rotate_left
                  simp only [Act.put, List.getElem_toArray, List.getElem_cons_zero, List.getElem_cons_succ, List.setIfInBounds_toArray, List.set_cons_zero, List.set_cons_succ]
                  refine wpAnyH_take (i := 2) (oi := _) (v := ?_) rfl (by kernel_rfl) (by kernel_rfl) (by kernel_rfl) (fun _ _ _ h => h) (Or.inl ⟨by rfl, ?_⟩) hS ?_
                  rotate_left
                  · (intro w hSw; (try dsimp only at hSw); go_simp; (try with_reducible rfl))
                  rotate_left
                  simp only [Act.put, List.getElem_toArray, List.getElem_cons_zero, List.getElem_cons_succ, List.setIfInBounds_toArray, List.set_cons_zero, List.set_cons_succ]
                  refine wpAnyH_take (i := 3) (oi := _) (v := ?_) rfl (by kernel_rfl) (by kernel_rfl) (by kernel_rfl) (fun _ _ _ h => h) (Or.inl ⟨by rfl, ?_⟩) hS ?_
                  rotate_left
                  · (intro w hSw; (try dsimp only at hSw); go_simp; (try with_reducible rfl))
                  rotate_left
                  simp only [Act.put, List.getElem_toArray, List.getElem_cons_zero, List.getElem_cons_succ, List.setIfInBounds_toArray, List.set_cons_zero, List.set_cons_succ]
                  refine wpAnyH_take (i := 4) (oi := _) (v := ?_) rfl (by kernel_rfl) (by kernel_rfl) (by kernel_rfl) (fun _ _ _ h => h) (Or.inl ⟨by rfl, ?_⟩) hS ?_
                  rotate_left
                  · (intro w hSw; (try dsimp only at hSw); go_simp; (try with_reducible rfl))
                  rotate_left
                  simp only [Act.put, List.getElem_toArray, List.getElem_cons_zero, List.getElem_cons_succ, List.setIfInBounds_toArray, List.set_cons_zero, List.set_cons_succ]
                  refine wpAnyH_take (i := 5) (oi := _) (v := ?_) rfl (by kernel_rfl) (by kernel_rfl) (by kernel_rfl) (fun _ _ _ h => h) (Or.inl ⟨by rfl, ?_⟩) hS ?_
                  rotate_left
                  · (intro w hSw; (try dsimp only at hSw); go_simp; (try with_reducible rfl))
                  rotate_left
                  simp only [Act.put, List.getElem_toArray, List.getElem_cons_zero, List.getElem_cons_succ, List.setIfInBounds_toArray, List.set_cons_zero, List.set_cons_succ]
                  refine wpAnyH_take (i := 6) (oi := _) (v := ?_) rfl (by kernel_rfl) (by kernel_rfl) (by kernel_rfl) (fun _ _ _ h => h) (Or.inl ⟨by rfl, ?_⟩) hS ?_
                  rotate_left
                  · (intro w hSw; (try dsimp only at hSw); go_simp; (try with_reducible rfl))
                  rotate_left
                  simp only [Act.put, List.getElem_toArray, List.getElem_cons_zero, List.getElem_cons_succ, List.setIfInBounds_toArray, List.set_cons_zero, List.set_cons_succ]
                  refine wpAnyH_take (i := 7) (oi := _) (v := ?_) rfl (by kernel_rfl) (by kernel_rfl) (by kernel_rfl) (fun _ _ _ h => h) (Or.inl ⟨by rfl, ?_⟩) hS ?_
                  rotate_left
                  · (intro w hSw; (try dsimp only at hSw); go_simp; (try with_reducible rfl))
                  rotate_left
                  simp only [Act.put, List.getElem_toArray, List.getElem_cons_zero, List.getElem_cons_succ, List.setIfInBounds_toArray, List.set_cons_zero, List.set_cons_succ]
                  refine wpAnyH_take (i := 8) (oi := _) (v := ?_) rfl (by kernel_rfl) (by kernel_rfl) (by kernel_rfl) (fun _ _ _ h => h) (Or.inl ⟨by rfl, ?_⟩) hS ?_
                  rotate_left
                  · (intro w hSw; (try dsimp only at hSw); go_simp; (try with_reducible rfl))
                  rotate_left
                  simp only [Act.put, List.getElem_toArray, List.getElem_cons_zero, List.getElem_cons_succ, List.setIfInBounds_toArray, List.set_cons_zero, List.set_cons_succ]
                  refine wpAnyH_take (i := 9) (oi := _) (v := ?_) rfl (by kernel_rfl) (by kernel_rfl) (by kernel_rfl) (fun _ _ _ h => h) (Or.inl ⟨by rfl, ?_⟩) hS ?_
                  rotate_left
                  · (intro w hSw; (try dsimp only at hSw); go_simp; (try with_reducible rfl))
                  rotate_left
                  simp only [Act.put, List.getElem_toArray, List.getElem_cons_zero, List.getElem_cons_succ, List.setIfInBounds_toArray, List.set_cons_zero, List.set_cons_succ]
                  refine wpAnyH_take (i := 10) (oi := _) (v := ?_) rfl (by kernel_rfl) (by kernel_rfl) (by kernel_rfl) (fun _ _ _ h => h) (Or.inl ⟨by rfl, ?_⟩) hS ?_
                  rotate_left
                  · (intro w hSw; (try dsimp only at hSw); go_simp; (try with_reducible rfl))
                  rotate_left
                  simp only [Act.put, List.getElem_toArray, List.getElem_cons_zero, List.getElem_cons_succ, List.setIfInBounds_toArray, List.set_cons_zero, List.set_cons_succ]
                  refine wpAnyH_take (i := 11) (oi := _) (v := ?_) rfl (by kernel_rfl) (by kernel_rfl) (by kernel_rfl) (fun _ _ _ h => h) (Or.inl ⟨by rfl, ?_⟩) hS ?_
                  rotate_left
                  · (intro w hSw; (try dsimp only at hSw); go_simp; (try with_reducible rfl))
                  rotate_left
                  simp only [Act.put, List.getElem_toArray, List.getElem_cons_zero, List.getElem_cons_succ, List.setIfInBounds_toArray, List.set_cons_zero, List.set_cons_succ]
                  refine wpAnyH_take (i := 12) (oi := _) (v := ?_) rfl (by kernel_rfl) (by kernel_rfl) (by kernel_rfl) (fun _ _ _ h => h) (Or.inl ⟨by rfl, ?_⟩) hS ?_
                  rotate_left
                  · (intro w hSw; (try dsimp only at hSw); go_simp; (try with_reducible rfl))
                  rotate_left
                  simp only [Act.put, List.getElem_toArray, List.getElem_cons_zero, List.getElem_cons_succ, List.setIfInBounds_toArray, List.set_cons_zero, List.set_cons_succ]
                  refine wpAnyH_take (i := 13) (oi := _) (v := ?_) rfl (by kernel_rfl) (by kernel_rfl) (by kernel_rfl) (fun _ _ _ h => h) (Or.inl ⟨by rfl, ?_⟩) hS ?_
                  rotate_left
                  · (intro w hSw; (try dsimp only at hSw); go_simp; (try with_reducible rfl))
                  rotate_left
                  simp only [Act.put, List.getElem_toArray, List.getElem_cons_zero, List.getElem_cons_succ, List.setIfInBounds_toArray, List.set_cons_zero, List.set_cons_succ]
                  refine wpAnyH_take (i := 14) (oi := _) (v := ?_) rfl (by kernel_rfl) (by kernel_rfl) (by kernel_rfl) (fun _ _ _ h => h) (Or.inl ⟨by rfl, ?_⟩) hS ?_
                  rotate_left
                  · (intro w hSw; (try dsimp only at hSw); go_simp; (try with_reducible rfl))
                  rotate_left
                  simp only [Act.put, List.getElem_toArray, List.getElem_cons_zero, List.getElem_cons_succ, List.setIfInBounds_toArray, List.set_cons_zero, List.set_cons_succ]
                  refine wpAnyH_ready (rs := [15]) (by kernel_rfl) (by simp) ?_
                  refine AllReadyH.cons rfl (fun K hK => ?_) AllReadyH.nil
                  rw [if_pos (by rfl)]
                  go_simp
                  have ba := Ext.alloc (Below.refl wd.heap.size wd) (.cells #[.int .u8 0, .int .i64 0, .int .i64 0, .slice none 0 0] 58)
                  have K1 := BoxOf.new wd #[.int .u8 0, .int .i64 0, .int .i64 0, .slice none 0 0] 58
                  have hSa := HS.out _ (Ext.trans hS.1 ba)
                  refine hK.out _ _ hSa (fun hS' => ?_)
                  clear hK K hS hSa
                  have hS := hS'
                  clear hS'
                  try simp only [Act.put, List.getElem_toArray, List.getElem_cons_zero, List.getElem_cons_succ, List.setIfInBounds_toArray, List.set_cons_zero, List.set_cons_succ]
                  obtain ⟨gk, hgk⟩ : ∃ z : Nat, z = wd.heap.size := ⟨_, rfl⟩
                  rw [← hgk] at K1 ⊢
                  have HGK := Lib.hid hgk
                  clear hgk
                  generalize wd.alloc (.cells #[.int .u8 0, .int .i64 0, .int .i64 0, .slice none 0 0] 58) = we at *
                  refine wpAnyH_ready (rs := [16]) (by kernel_rfl) (by simp) ?_
                  refine AllReadyH.cons rfl (fun K hK => ?_) AllReadyH.nil
                  rw [if_pos (by rfl)]
                  have kf := K1.free
                  have kc := K1.cell
                  go_simp
                  have hlk : wr.heap.size ≤ gk := by
                    have h1 := HGK.out
                    have h2 := HWD.out
                    rw [h1, h2]
                    exact Nat.le_refl _
                  have hbk := Below.setCell (p := ⟨gk, 3, none⟩) (Below.setCell (p := ⟨gk, 2, none⟩) (Below.setCell (p := ⟨gk, 1, none⟩) (Below.setCell (p := ⟨gk, 0, none⟩) hS.1 hlk (.int .u8 ((kiOf hq1).toNat : Int))) hlk (.int .i64 (atOf hq1))) hlk (.int .i64 (manyOf hq1))) hlk (.slice Ah (datOf hq1).length ch)
                  have K2 : BoxOf _ gk #[.int .u8 ((kiOf hq1).toNat : Int), .int .i64 (atOf hq1), .int .i64 (manyOf hq1), .slice Ah (datOf hq1).length ch] 58 := mbox_self (mbox_self (mbox_self (mbox_self K1 0 (.int .u8 ((kiOf hq1).toNat : Int))) 1 (.int .i64 (atOf hq1))) 2 (.int .i64 (manyOf hq1))) 3 (.slice Ah (datOf hq1).length ch)
                  refine hK.out _ _ (HS.out _ hbk) (fun hS' => ?_)
                  clear hK K hS kf kc K1 hbk hlk
                  have hS := hS'
                  clear hS'
                  try simp only [Act.put, List.getElem_toArray, List.getElem_cons_zero, List.getElem_cons_succ, List.setIfInBounds_toArray, List.set_cons_zero, List.set_cons_succ]
                  refine wpAnyH_take (i := 17) (oi := _) (v := ?_) rfl (by kernel_rfl) (by kernel_rfl) (by kernel_rfl) (fun _ _ _ h => h) (Or.inl ⟨by rfl, ?_⟩) hS ?_
                  rotate_left
                  · (intro w hSw; (try dsimp only at hSw); go_simp; (try with_reducible rfl))
                  rotate_left
                  simp only [Act.put, List.getElem_toArray, List.getElem_cons_zero, List.getElem_cons_succ, List.setIfInBounds_toArray, List.set_cons_zero, List.set_cons_succ]
                  refine wpAnyH_take (i := 18) (oi := _) (v := ?_) rfl (by kernel_rfl) (by kernel_rfl) (by kernel_rfl) (fun _ _ _ h => h) (Or.inl ⟨by rfl, ?_⟩) hS ?_
                  rotate_left
                  · (intro w hSw; (try dsimp only at hSw); go_simp; (try with_reducible rfl))
                  rotate_left
                  simp only [Act.put, List.getElem_toArray, List.getElem_cons_zero, List.getElem_cons_succ, List.setIfInBounds_toArray, List.set_cons_zero, List.set_cons_succ]
                  refine wpAnyH_done (by kernel_rfl) ?_ _
                  have bH := hS.1
                  clear hS HS
                  generalize (((we.setCell ⟨gk, 0, none⟩ (.int .u8 ((kiOf hq1).toNat : Int))).setCell ⟨gk, 1, none⟩ (.int .i64 (atOf hq1))).setCell ⟨gk, 2, none⟩ (.int .i64 (manyOf hq1))).setCell ⟨gk, 3, none⟩ (.slice Ah (datOf hq1).length ch) = wk at *
                  have HB8 := Lib.hid (Ext.trans b7 bH)
                  have HBH := Lib.hid bH
                  have kc := K2.cell
                  clear bH b7 hx7 hX7 hsub q1 q2 q3 q4
                  rcases Bool.eq_false_or_eq_true (((kiOf hq1).toNat : Int) == 2) with e2 | e2
                  · have HKW : Hid (kWrites ((kiOf hq1).toNat : Int) = true ∧ kBytes ((kiOf hq1).toNat : Int) = true) := by
                      have h1 : ((kiOf hq1).toNat : Int) = 2 := by simpa using e2
                      rw [h1]
                      exact ⟨by decide, by decide⟩
                    rcases Bool.eq_false_or_eq_true (decide (atOf hq1 ≤ (nn : Int))) with f1 | f1
                    · rcases Bool.eq_false_or_eq_true (decide ((nn : Int) - atOf hq1 < manyOf hq1)) with f2 | f2
                      · obtain ⟨i, hi⟩ : ∃ i : Nat, (i : Int) = (nn : Int) - atOf hq1 := ⟨((nn : Int) - atOf hq1).toNat, by have := of_decide_eq_true f1; omega⟩
                        have HIN := Lib.hid (And.intro (of_decide_eq_true f1) (of_decide_eq_true f2))
                        have HLN : Hid (i * 128 + 128 ≤ (datOf hq1).length) := by
                          have h1 := HFITS.out.2
                          unfold kWant at h1
                          rw [if_pos HKW.out.2] at h1
                          have := HIN.out
                          show _ ≤ _
                          omega
                        have hrb1 := HRB1.out.below HBH.out
                        obtain ⟨db, dof, rfl⟩ : ∃ db dof, Ah = some ⟨db, dof, none⟩ := by
                          rcases hrb1.bytes_bs.2 with h0 | ⟨db, dof, e, _⟩
                          · have h1 : datOf hq1 = [] := by simpa using h0
                            have := HLN.out
                            rw [h1] at this
                            simp at this
                          · exact ⟨db, dof, e⟩
                        have hcl : (datOf hq1).length ≤ ch := by obtain ⟨_, c', e, hn, _⟩ := rdin_sl.1 hrb1; injection e with e _; injection e with _ _ e3; rw [e3]; exact hn
                        have hp1 := (hrb1.part HLN.out).bytes_bs
                        rw [part128_len HLN.out] at hp1
                        have HP1 := Lib.hid hp1
                        have HIE := Lib.hid hi
                        have i8 : i < 8 := by have := HFITS.out.1.2; have := HIN.out; omega
                        obtain ⟨p1, hp1e⟩ : ∃ p1 : Nat, p1 = i * 128 := ⟨_, rfl⟩
                        obtain ⟨p2, hp2e⟩ : ∃ p2 : Nat, p2 = i * 128 + 128 := ⟨_, rfl⟩
                        rw [← hp1e] at HP1
                        have w1 : IntKind.i64.wrap ((i : Int) * 128) = (p1 : Int) := by rw [i64_fit (by omega)]; omega
                        have w2 : IntKind.i64.wrap ((p1 : Int) + 128) = (p2 : Int) := by rw [i64_fit (by omega)]; omega
                        have hln := HLN.out
                        have w3 : p1 ≤ p2 := by omega
                        have w4 : p2 ≤ ch := by omega
                        have w5 : ¬ ch = p1 := by omega
                        have w6 : p2 - p1 = 128 := by omega
                        clear hp1e hp2e hln i8
                        rw [← hi] at f2 ⊢
                        clear hi hrb1 hp1 hcl f1
                        go_upto_region 22 with fail
                        have HS : Hid (∀ w', Below wk.heap.size wk w' → (Below wk.heap.size wk w' ∧ (∀ p, w'.cell? ⟨gk, p, none⟩ = (#[.int .u8 ((kiOf hq1).toNat : Int), .int .i64 (atOf hq1), .int .i64 (manyOf hq1), .slice (some ⟨db, dof, none⟩) (datOf hq1).length ch] : Array Value).toList[p]?) ∧ Bs w' (some ⟨db, dof + p1, none⟩) 128 (part128 (datOf hq1) i) ∧ Bs w' D ds.length ds)) := fun w' b => ⟨b, (K2.next b).cell, HP1.out.below b, (HD.out.bytes_bs.below (Ext.trans HT6.out HB8.out)).below b⟩
                        refine wp_region_held_drew (S := fun w' => Below wk.heap.size wk w' ∧ (∀ p, w'.cell? ⟨gk, p, none⟩ = (#[.int .u8 ((kiOf hq1).toNat : Int), .int .i64 (atOf hq1), .int .i64 (manyOf hq1), .slice (some ⟨db, dof, none⟩) (datOf hq1).length ch] : Array Value).toList[p]?) ∧ Bs w' (some ⟨db, dof + p1, none⟩) 128 (part128 (datOf hq1) i) ∧ Bs w' D ds.length ds) (by kernel_rfl) (HS.out _ (Ext.drew (Below.refl _ _))) (fun hS => ?_)
                        refine wpAnyH_take (i := 0) (oi := _) (v := ?_) rfl (by kernel_rfl) (by kernel_rfl) (by kernel_rfl) (fun _ _ _ h => h) (Or.inl ⟨by rfl, ?_⟩) hS ?_
                        rotate_left
                        · (intro w hSw; (try dsimp only at hSw); go_simp; (try with_reducible rfl))
                        rotate_left
                        simp only [Act.put, List.getElem_toArray, List.getElem_cons_zero, List.getElem_cons_succ, List.setIfInBounds_toArray, List.set_cons_zero, List.set_cons_succ]
                        refine wpAnyH_take (i := 1) (oi := _) (v := ?_) rfl (by kernel_rfl) (by kernel_rfl) (by kernel_rfl) (fun _ _ _ h => h) (Or.inl ⟨by rfl, ?_⟩) hS ?_
                        rotate_left
                        · (intro w hSw; (try dsimp only at hSw); go_simp; (try with_reducible rfl))
                        rotate_left
                        simp only [Act.put, List.getElem_toArray, List.getElem_cons_zero, List.getElem_cons_succ, List.setIfInBounds_toArray, List.set_cons_zero, List.set_cons_succ]
                        refine wpAnyH_take (i := 2) (oi := _) (v := ?_) rfl (by kernel_rfl) (by kernel_rfl) (by kernel_rfl) (fun _ _ _ h => h) (Or.inl ⟨by rfl, ?_⟩) hS ?_
                        rotate_left
                        · (intro w hSw; (try dsimp only at hSw); go_simp; (try with_reducible rfl))
                        rotate_left
                        simp only [Act.put, List.getElem_toArray, List.getElem_cons_zero, List.getElem_cons_succ, List.setIfInBounds_toArray, List.set_cons_zero, List.set_cons_succ]
                        refine wpAnyH_take (i := 3) (oi := _) (v := ?_) rfl (by kernel_rfl) (by kernel_rfl) (by kernel_rfl) (fun _ _ _ h => h) (Or.inl ⟨by rfl, ?_⟩) hS ?_
                        rotate_left
                        · (intro w hSw; (try dsimp only at hSw); go_simp; (try with_reducible rfl))
                        rotate_left
                        simp only [Act.put, List.getElem_toArray, List.getElem_cons_zero, List.getElem_cons_succ, List.setIfInBounds_toArray, List.set_cons_zero, List.set_cons_succ]
                        refine wpAnyH_take (i := 4) (oi := _) (v := ?_) rfl (by kernel_rfl) (by kernel_rfl) (by kernel_rfl) (fun _ _ _ h => h) (Or.inl ⟨by rfl, ?_⟩) hS ?_
                        rotate_left
                        · (intro w hSw; (try dsimp only at hSw); go_simp; (try with_reducible rfl))
                        rotate_left
                        simp only [Act.put, List.getElem_toArray, List.getElem_cons_zero, List.getElem_cons_succ, List.setIfInBounds_toArray, List.set_cons_zero, List.set_cons_succ]
                        refine wpAnyH_take (i := 5) (oi := _) (v := ?_) rfl (by kernel_rfl) (by kernel_rfl) (by kernel_rfl) (fun _ _ _ h => h) (Or.inl ⟨by rfl, ?_⟩) hS ?_
                        rotate_left
                        · (intro w hSw; (try dsimp only at hSw); go_simp; (try with_reducible rfl))
                        rotate_left
                        simp only [Act.put, List.getElem_toArray, List.getElem_cons_zero, List.getElem_cons_succ, List.setIfInBounds_toArray, List.set_cons_zero, List.set_cons_succ]
                        refine wpAnyH_take (i := 6) (oi := _) (v := ?_) rfl (by kernel_rfl) (by kernel_rfl) (by kernel_rfl) (fun _ _ _ h => h) (Or.inl ⟨by rfl, ?_⟩) hS ?_
                        rotate_left
                        · (intro w hSw; (try dsimp only at hSw); go_simp; (try with_reducible rfl))
                        rotate_left
                        simp only [Act.put, List.getElem_toArray, List.getElem_cons_zero, List.getElem_cons_succ, List.setIfInBounds_toArray, List.set_cons_zero, List.set_cons_succ]
                        refine wpAnyH_take (i := 7) (oi := _) (v := ?_) rfl (by kernel_rfl) (by kernel_rfl) (by kernel_rfl) (fun _ _ _ h => h) (Or.inl ⟨by rfl, ?_⟩) hS ?_
                        rotate_left
                        · (intro w hSw; (try dsimp only at hSw); go_simp; (try with_reducible rfl))
                        rotate_left
                        simp only [Act.put, List.getElem_toArray, List.getElem_cons_zero, List.getElem_cons_succ, List.setIfInBounds_toArray, List.set_cons_zero, List.set_cons_succ]
                        refine wpAnyH_take (i := 8) (oi := _) (v := ?_) rfl (by kernel_rfl) (by kernel_rfl) (by kernel_rfl) (fun _ _ _ h => h) (Or.inl ⟨by rfl, ?_⟩) hS ?_
                        rotate_left
                        · (intro w hSw; (try dsimp only at hSw); go_simp; (try with_reducible rfl))
                        rotate_left
                        simp only [Act.put, List.getElem_toArray, List.getElem_cons_zero, List.getElem_cons_succ, List.setIfInBounds_toArray, List.set_cons_zero, List.set_cons_succ]
                        refine wpAnyH_take (i := 9) (oi := _) (v := ?_) rfl (by kernel_rfl) (by kernel_rfl) (by kernel_rfl) (fun _ _ _ h => h) (Or.inl ⟨by rfl, ?_⟩) hS ?_
                        rotate_left
                        · (intro w hSw; (try dsimp only at hSw); go_simp; (try with_reducible rfl))
                        rotate_left
                        simp only [Act.put, List.getElem_toArray, List.getElem_cons_zero, List.getElem_cons_succ, List.setIfInBounds_toArray, List.set_cons_zero, List.set_cons_succ]
                        refine wpAnyH_take (i := 10) (oi := _) (v := ?_) rfl (by kernel_rfl) (by kernel_rfl) (by kernel_rfl) (fun _ _ _ h => h) (Or.inl ⟨by rfl, ?_⟩) hS ?_
                        rotate_left
                        · (intro w hSw; (try dsimp only at hSw); go_simp; (try with_reducible rfl))
                        rotate_left
                        simp only [Act.put, List.getElem_toArray, List.getElem_cons_zero, List.getElem_cons_succ, List.setIfInBounds_toArray, List.set_cons_zero, List.set_cons_succ]
                        refine wpAnyH_take (i := 11) (oi := _) (v := ?_) rfl (by kernel_rfl) (by kernel_rfl) (by kernel_rfl) (fun _ _ _ h => h) (Or.inl ⟨by rfl, ?_⟩) hS ?_
                        rotate_left
                        · (intro w hSw; (try dsimp only at hSw); go_simp; (try with_reducible rfl))
                        rotate_left
                        simp only [Act.put, List.getElem_toArray, List.getElem_cons_zero, List.getElem_cons_succ, List.setIfInBounds_toArray, List.set_cons_zero, List.set_cons_succ]
                        refine wpAnyH_take (i := 12) (oi := _) (v := ?_) rfl (by kernel_rfl) (by kernel_rfl) (by kernel_rfl) (fun _ _ _ h => h) (Or.inl ⟨by rfl, ?_⟩) hS ?_
                        rotate_left
                        · (intro w hSw; (try dsimp only at hSw); go_simp; (try with_reducible rfl))
                        rotate_left
                        simp only [Act.put, List.getElem_toArray, List.getElem_cons_zero, List.getElem_cons_succ, List.setIfInBounds_toArray, List.set_cons_zero, List.set_cons_succ]
                        refine wpAnyH_take (i := 13) (oi := _) (v := ?_) rfl (by kernel_rfl) (by kernel_rfl) (by kernel_rfl) (fun _ _ _ h => h) (Or.inl ⟨by rfl, ?_⟩) hS ?_
                        rotate_left
                        · (intro w hSw; (try dsimp only at hSw); go_simp; (try with_reducible rfl))
                        rotate_left
                        simp only [Act.put, List.getElem_toArray, List.getElem_cons_zero, List.getElem_cons_succ, List.setIfInBounds_toArray, List.set_cons_zero, List.set_cons_succ]
                        refine wpAnyH_take (i := 14) (oi := _) (v := ?_) rfl (by kernel_rfl) (by kernel_rfl) (by kernel_rfl) (fun _ _ _ h => h) (Or.inl ⟨by rfl, ?_⟩) hS ?_
                        rotate_left
                        · (intro w hSw; (try dsimp only at hSw); go_simp; (try with_reducible rfl))
                        rotate_left
                        simp only [Act.put, List.getElem_toArray, List.getElem_cons_zero, List.getElem_cons_succ, List.setIfInBounds_toArray, List.set_cons_zero, List.set_cons_succ]
                        refine wpAnyH_take (i := 15) (oi := _) (v := ?_) rfl (by kernel_rfl) (by kernel_rfl) (by kernel_rfl) (fun _ _ _ h => h) (Or.inl ⟨by rfl, ?_⟩) hS ?_
                        rotate_left
                        · (intro w hSw; (try dsimp only at hSw); go_simp; (try with_reducible rfl))
                        rotate_left
                        simp only [Act.put, List.getElem_toArray, List.getElem_cons_zero, List.getElem_cons_succ, List.setIfInBounds_toArray, List.set_cons_zero, List.set_cons_succ]
                        refine wpAnyH_take (i := 16) (oi := _) (v := ?_) rfl (by kernel_rfl) (by kernel_rfl) (by kernel_rfl) (fun _ _ _ h => h) (Or.inl ⟨by rfl, ?_⟩) hS ?_
                        rotate_left
                        · (intro w hSw; (try dsimp only at hSw); go_simp; (try with_reducible rfl))
                        rotate_left
                        simp only [Act.put, List.getElem_toArray, List.getElem_cons_zero, List.getElem_cons_succ, List.setIfInBounds_toArray, List.set_cons_zero, List.set_cons_succ]
                        refine wpAnyH_take (i := 17) (oi := _) (v := ?_) rfl (by kernel_rfl) (by kernel_rfl) (by kernel_rfl) (fun _ _ _ h => h) (Or.inl ⟨by rfl, ?_⟩) hS ?_
                        rotate_left
                        · (intro w hSw; have sq := run_string_bs (P := Try.prog) (ch - p1) 29 9 5 Try.underlying29 Try.underlying5 Try.underlying9 hSw.2.2.1; (try dsimp only at hSw); go_simp; (try with_reducible rfl))
                        rotate_left
                        try simp only [Act.put, List.getElem_toArray, List.getElem_cons_zero, List.getElem_cons_succ, List.setIfInBounds_toArray, List.set_cons_zero, List.set_cons_succ]
                        refine wpAnyH_take (i := 18) (oi := _) (v := ?_) rfl (by kernel_rfl) (by kernel_rfl) (by kernel_rfl) (fun _ _ _ h => h) (Or.inl ⟨by rfl, ?_⟩) hS ?_
                        rotate_left
                        · (intro w hSw; (try dsimp only at hSw); go_simp; (try with_reducible rfl))
                        rotate_left
                        simp only [Act.put, List.getElem_toArray, List.getElem_cons_zero, List.getElem_cons_succ, List.setIfInBounds_toArray, List.set_cons_zero, List.set_cons_succ]
                        refine wpAnyH_take (i := 19) (oi := _) (v := ?_) rfl (by kernel_rfl) (by kernel_rfl) (by kernel_rfl) (fun _ _ _ h => h) (Or.inl ⟨by rfl, ?_⟩) hS ?_
                        rotate_left
                        · (intro w hSw; have sq := run_string_bs (P := Try.prog) dc 29 9 5 Try.underlying29 Try.underlying5 Try.underlying9 hSw.2.2.2; (try dsimp only at hSw); go_simp; (try with_reducible rfl))
                        rotate_left
                        try simp only [Act.put, List.getElem_toArray, List.getElem_cons_zero, List.getElem_cons_succ, List.setIfInBounds_toArray, List.set_cons_zero, List.set_cons_succ]
                        refine wpAnyH_take (i := 20) (oi := _) (v := ?_) rfl (by kernel_rfl) (by kernel_rfl) (by kernel_rfl) (fun _ _ _ h => h) (Or.inl ⟨by rfl, ?_⟩) hS ?_
                        rotate_left
                        · (intro w hSw; (try dsimp only at hSw); go_simp; (try with_reducible rfl))
                        rotate_left
                        simp only [Act.put, List.getElem_toArray, List.getElem_cons_zero, List.getElem_cons_succ, List.setIfInBounds_toArray, List.set_cons_zero, List.set_cons_succ]
                        refine wpAnyH_take (i := 21) (oi := _) (v := ?_) rfl (by kernel_rfl) (by kernel_rfl) (by kernel_rfl) (fun _ _ _ h => h) (Or.inl ⟨by rfl, ?_⟩) hS ?_
                        rotate_left
                        · (intro w hSw; (try dsimp only at hSw); go_simp; (try with_reducible rfl))
                        rotate_left
                        simp only [Act.put, List.getElem_toArray, List.getElem_cons_zero, List.getElem_cons_succ, List.setIfInBounds_toArray, List.set_cons_zero, List.set_cons_succ]
                        refine wpAnyH_take (i := 22) (oi := _) (v := ?_) rfl (by kernel_rfl) (by kernel_rfl) (by kernel_rfl) (fun _ _ _ h => h) (Or.inl ⟨by rfl, ?_⟩) hS ?_
                        rotate_left
                        · (intro w hSw; (try dsimp only at hSw); go_simp; (try with_reducible rfl))
                        rotate_left
                        simp only [Act.put, List.getElem_toArray, List.getElem_cons_zero, List.getElem_cons_succ, List.setIfInBounds_toArray, List.set_cons_zero, List.set_cons_succ]
                        refine wpAnyH_done (by kernel_rfl) ?_ _
                        have bH := hS.1
                        clear hS HS
                        have HB9 := Lib.hid (Ext.trans HB8.out bH)
                        clear bH f2 w1 w2 w3 w4 w5 w6
                        have HE : Hid (hitB (nn : Int) ds hq1 = (part128 (datOf hq1) i == ds)) := by have h1 := HIN.out; have h2 := HIE.out; show _ = _; unfold hitB blk; rw [if_pos HKW.out.2, HKW.out.1, decide_eq_true (show atOf hq1 ≤ (nn : Int) from h1.1), decide_eq_true (show (nn : Int) < atOf hq1 + manyOf hq1 by omega), show ((nn : Int) - atOf hq1).toNat = i by omega]; simp
                        cases gb with
                        | true =>
                          go_wp2
                          go_roundw
                          case rel => exact ⟨q + 1, (true || (part128 (datOf hq1) i == ds)), HLJ.out, by first | exact round_same HWJ | go_num, rfl, (HST.out (part128 (datOf hq1) i == ds)).2 (by rw [HE.out]; simp), HB9.out⟩
                          case measure => first | exact round_less HWJ HLJ.out | (have h := HLJ.out; simp [intOf]; omega)
                        | false =>
                          go_wp2
                          go_roundw
                          case rel => exact ⟨q + 1, (false || (part128 (datOf hq1) i == ds)), HLJ.out, by first | exact round_same HWJ | go_num, rfl, (HST.out (part128 (datOf hq1) i == ds)).2 (by rw [HE.out]; simp), HB9.out⟩
                          case measure => first | exact round_less HWJ HLJ.out | (have h := HLJ.out; simp [intOf]; omega)
                      · have HNO : Hid (¬ (nn : Int) - atOf hq1 < manyOf hq1) := of_decide_eq_false f2
                        go_upto_region 22 with fail
                        have HS : Hid (∀ w', Below wk.heap.size wk w' → (Below wk.heap.size wk w' ∧ (∀ p, w'.cell? ⟨gk, p, none⟩ = (#[.int .u8 ((kiOf hq1).toNat : Int), .int .i64 (atOf hq1), .int .i64 (manyOf hq1), .slice Ah (datOf hq1).length ch] : Array Value).toList[p]?))) := fun w' b => ⟨b, (K2.next b).cell⟩
                        refine wp_region_held_drew (S := fun w' => Below wk.heap.size wk w' ∧ (∀ p, w'.cell? ⟨gk, p, none⟩ = (#[.int .u8 ((kiOf hq1).toNat : Int), .int .i64 (atOf hq1), .int .i64 (manyOf hq1), .slice Ah (datOf hq1).length ch] : Array Value).toList[p]?)) (by kernel_rfl) (HS.out _ (Ext.drew (Below.refl _ _))) (fun hS => ?_)
                        refine wpAnyH_take (i := 0) (oi := _) (v := ?_) rfl (by kernel_rfl) (by kernel_rfl) (by kernel_rfl) (fun _ _ _ h => h) (Or.inl ⟨by rfl, ?_⟩) hS ?_
                        rotate_left
                        · (intro w hSw; (try dsimp only at hSw); go_simp; (try with_reducible rfl))
                        rotate_left
                        simp only [Act.put, List.getElem_toArray, List.getElem_cons_zero, List.getElem_cons_succ, List.setIfInBounds_toArray, List.set_cons_zero, List.set_cons_succ]
                        refine wpAnyH_take (i := 1) (oi := _) (v := ?_) rfl (by kernel_rfl) (by kernel_rfl) (by kernel_rfl) (fun _ _ _ h => h) (Or.inl ⟨by rfl, ?_⟩) hS ?_
                        rotate_left
                        · (intro w hSw; (try dsimp only at hSw); go_simp; (try with_reducible rfl))
                        rotate_left
                        simp only [Act.put, List.getElem_toArray, List.getElem_cons_zero, List.getElem_cons_succ, List.setIfInBounds_toArray, List.set_cons_zero, List.set_cons_succ]
                        refine wpAnyH_take (i := 2) (oi := _) (v := ?_) rfl (by kernel_rfl) (by kernel_rfl) (by kernel_rfl) (fun _ _ _ h => h) (Or.inl ⟨by rfl, ?_⟩) hS ?_
                        rotate_left
                        · (intro w hSw; (try dsimp only at hSw); go_simp; (try with_reducible rfl))
                        rotate_left
                        simp only [Act.put, List.getElem_toArray, List.getElem_cons_zero, List.getElem_cons_succ, List.setIfInBounds_toArray, List.set_cons_zero, List.set_cons_succ]
                        refine wpAnyH_take (i := 3) (oi := _) (v := ?_) rfl (by kernel_rfl) (by kernel_rfl) (by kernel_rfl) (fun _ _ _ h => h) (Or.inl ⟨by rfl, ?_⟩) hS ?_
                        rotate_left
                        · (intro w hSw; (try dsimp only at hSw); go_simp; (try with_reducible rfl))
                        rotate_left
                        simp only [Act.put, List.getElem_toArray, List.getElem_cons_zero, List.getElem_cons_succ, List.setIfInBounds_toArray, List.set_cons_zero, List.set_cons_succ]
                        refine wpAnyH_take (i := 4) (oi := _) (v := ?_) rfl (by kernel_rfl) (by kernel_rfl) (by kernel_rfl) (fun _ _ _ h => h) (Or.inl ⟨by rfl, ?_⟩) hS ?_
                        rotate_left
                        · (intro w hSw; (try dsimp only at hSw); go_simp; (try with_reducible rfl))
                        rotate_left
                        simp only [Act.put, List.getElem_toArray, List.getElem_cons_zero, List.getElem_cons_succ, List.setIfInBounds_toArray, List.set_cons_zero, List.set_cons_succ]
                        refine wpAnyH_take (i := 5) (oi := _) (v := ?_) rfl (by kernel_rfl) (by kernel_rfl) (by kernel_rfl) (fun _ _ _ h => h) (Or.inl ⟨by rfl, ?_⟩) hS ?_
                        rotate_left
                        · (intro w hSw; (try dsimp only at hSw); go_simp; (try with_reducible rfl))
                        rotate_left
                        simp only [Act.put, List.getElem_toArray, List.getElem_cons_zero, List.getElem_cons_succ, List.setIfInBounds_toArray, List.set_cons_zero, List.set_cons_succ]
                        refine wpAnyH_take (i := 6) (oi := _) (v := ?_) rfl (by kernel_rfl) (by kernel_rfl) (by kernel_rfl) (fun _ _ _ h => h) (Or.inl ⟨by rfl, ?_⟩) hS ?_
                        rotate_left
                        · (intro w hSw; (try dsimp only at hSw); go_simp; (try with_reducible rfl))
                        rotate_left
                        simp only [Act.put, List.getElem_toArray, List.getElem_cons_zero, List.getElem_cons_succ, List.setIfInBounds_toArray, List.set_cons_zero, List.set_cons_succ]
                        refine wpAnyH_take (i := 7) (oi := _) (v := ?_) rfl (by kernel_rfl) (by kernel_rfl) (by kernel_rfl) (fun _ _ _ h => h) (Or.inl ⟨by rfl, ?_⟩) hS ?_
                        rotate_left
                        · (intro w hSw; (try dsimp only at hSw); go_simp; (try with_reducible rfl))
                        rotate_left
                        simp only [Act.put, List.getElem_toArray, List.getElem_cons_zero, List.getElem_cons_succ, List.setIfInBounds_toArray, List.set_cons_zero, List.set_cons_succ]
                        refine wpAnyH_take (i := 8) (oi := _) (v := ?_) rfl (by kernel_rfl) (by kernel_rfl) (by kernel_rfl) (fun _ _ _ h => h) (Or.inl ⟨by rfl, ?_⟩) hS ?_
                        rotate_left
                        · (intro w hSw; (try dsimp only at hSw); go_simp; (try with_reducible rfl))
                        rotate_left
                        simp only [Act.put, List.getElem_toArray, List.getElem_cons_zero, List.getElem_cons_succ, List.setIfInBounds_toArray, List.set_cons_zero, List.set_cons_succ]
                        refine wpAnyH_take (i := 9) (oi := _) (v := ?_) rfl (by kernel_rfl) (by kernel_rfl) (by kernel_rfl) (fun _ _ _ h => h) (Or.inr ⟨by rfl, ?_⟩) hS ?_
                        rotate_left
                        · rfl
                        rotate_left
                        simp only [Act.put, List.getElem_toArray, List.getElem_cons_zero, List.getElem_cons_succ, List.setIfInBounds_toArray, List.set_cons_zero, List.set_cons_succ]
                        refine wpAnyH_take (i := 10) (oi := _) (v := ?_) rfl (by kernel_rfl) (by kernel_rfl) (by kernel_rfl) (fun _ _ _ h => h) (Or.inr ⟨by rfl, ?_⟩) hS ?_
                        rotate_left
                        · rfl
                        rotate_left
                        simp only [Act.put, List.getElem_toArray, List.getElem_cons_zero, List.getElem_cons_succ, List.setIfInBounds_toArray, List.set_cons_zero, List.set_cons_succ]
                        refine wpAnyH_take (i := 11) (oi := _) (v := ?_) rfl (by kernel_rfl) (by kernel_rfl) (by kernel_rfl) (fun _ _ _ h => h) (Or.inr ⟨by rfl, ?_⟩) hS ?_
                        rotate_left
                        · rfl
                        rotate_left
                        simp only [Act.put, List.getElem_toArray, List.getElem_cons_zero, List.getElem_cons_succ, List.setIfInBounds_toArray, List.set_cons_zero, List.set_cons_succ]
                        refine wpAnyH_take (i := 12) (oi := _) (v := ?_) rfl (by kernel_rfl) (by kernel_rfl) (by kernel_rfl) (fun _ _ _ h => h) (Or.inr ⟨by rfl, ?_⟩) hS ?_
                        rotate_left
                        · rfl
                        rotate_left
                        simp only [Act.put, List.getElem_toArray, List.getElem_cons_zero, List.getElem_cons_succ, List.setIfInBounds_toArray, List.set_cons_zero, List.set_cons_succ]
                        refine wpAnyH_take (i := 13) (oi := _) (v := ?_) rfl (by kernel_rfl) (by kernel_rfl) (by kernel_rfl) (fun _ _ _ h => h) (Or.inr ⟨by rfl, ?_⟩) hS ?_
                        rotate_left
                        · rfl
                        rotate_left
                        simp only [Act.put, List.getElem_toArray, List.getElem_cons_zero, List.getElem_cons_succ, List.setIfInBounds_toArray, List.set_cons_zero, List.set_cons_succ]
                        refine wpAnyH_take (i := 14) (oi := _) (v := ?_) rfl (by kernel_rfl) (by kernel_rfl) (by kernel_rfl) (fun _ _ _ h => h) (Or.inr ⟨by rfl, ?_⟩) hS ?_
                        rotate_left
                        · rfl
                        rotate_left
                        simp only [Act.put, List.getElem_toArray, List.getElem_cons_zero, List.getElem_cons_succ, List.setIfInBounds_toArray, List.set_cons_zero, List.set_cons_succ]
                        refine wpAnyH_take (i := 15) (oi := _) (v := ?_) rfl (by kernel_rfl) (by kernel_rfl) (by kernel_rfl) (fun _ _ _ h => h) (Or.inr ⟨by rfl, ?_⟩) hS ?_
                        rotate_left
                        · rfl
                        rotate_left
                        simp only [Act.put, List.getElem_toArray, List.getElem_cons_zero, List.getElem_cons_succ, List.setIfInBounds_toArray, List.set_cons_zero, List.set_cons_succ]
                        refine wpAnyH_take (i := 16) (oi := _) (v := ?_) rfl (by kernel_rfl) (by kernel_rfl) (by kernel_rfl) (fun _ _ _ h => h) (Or.inr ⟨by rfl, ?_⟩) hS ?_
                        rotate_left
                        · rfl
                        rotate_left
                        simp only [Act.put, List.getElem_toArray, List.getElem_cons_zero, List.getElem_cons_succ, List.setIfInBounds_toArray, List.set_cons_zero, List.set_cons_succ]
                        refine wpAnyH_take (i := 17) (oi := _) (v := ?_) rfl (by kernel_rfl) (by kernel_rfl) (by kernel_rfl) (fun _ _ _ h => h) (Or.inr ⟨by rfl, ?_⟩) hS ?_
                        rotate_left
                        · rfl
                        rotate_left
                        simp only [Act.put, List.getElem_toArray, List.getElem_cons_zero, List.getElem_cons_succ, List.setIfInBounds_toArray, List.set_cons_zero, List.set_cons_succ]
                        refine wpAnyH_take (i := 18) (oi := _) (v := ?_) rfl (by kernel_rfl) (by kernel_rfl) (by kernel_rfl) (fun _ _ _ h => h) (Or.inr ⟨by rfl, ?_⟩) hS ?_
                        rotate_left
                        · rfl
                        rotate_left
                        simp only [Act.put, List.getElem_toArray, List.getElem_cons_zero, List.getElem_cons_succ, List.setIfInBounds_toArray, List.set_cons_zero, List.set_cons_succ]
                        refine wpAnyH_take (i := 19) (oi := _) (v := ?_) rfl (by kernel_rfl) (by kernel_rfl) (by kernel_rfl) (fun _ _ _ h => h) (Or.inr ⟨by rfl, ?_⟩) hS ?_
                        rotate_left
                        · rfl
                        rotate_left
                        simp only [Act.put, List.getElem_toArray, List.getElem_cons_zero, List.getElem_cons_succ, List.setIfInBounds_toArray, List.set_cons_zero, List.set_cons_succ]
                        refine wpAnyH_take (i := 20) (oi := _) (v := ?_) rfl (by kernel_rfl) (by kernel_rfl) (by kernel_rfl) (fun _ _ _ h => h) (Or.inr ⟨by rfl, ?_⟩) hS ?_
                        rotate_left
                        · rfl
                        rotate_left
                        simp only [Act.put, List.getElem_toArray, List.getElem_cons_zero, List.getElem_cons_succ, List.setIfInBounds_toArray, List.set_cons_zero, List.set_cons_succ]
                        refine wpAnyH_take (i := 21) (oi := _) (v := ?_) rfl (by kernel_rfl) (by kernel_rfl) (by kernel_rfl) (fun _ _ _ h => h) (Or.inl ⟨by rfl, ?_⟩) hS ?_
                        rotate_left
                        · (intro w hSw; (try dsimp only at hSw); go_simp; (try with_reducible rfl))
                        rotate_left
                        simp only [Act.put, List.getElem_toArray, List.getElem_cons_zero, List.getElem_cons_succ, List.setIfInBounds_toArray, List.set_cons_zero, List.set_cons_succ]
                        refine wpAnyH_take (i := 22) (oi := _) (v := ?_) rfl (by kernel_rfl) (by kernel_rfl) (by kernel_rfl) (fun _ _ _ h => h) (Or.inl ⟨by rfl, ?_⟩) hS ?_
                        rotate_left
                        · (intro w hSw; (try dsimp only at hSw); go_simp; (try with_reducible rfl))
                        rotate_left
                        simp only [Act.put, List.getElem_toArray, List.getElem_cons_zero, List.getElem_cons_succ, List.setIfInBounds_toArray, List.set_cons_zero, List.set_cons_succ]
                        refine wpAnyH_done (by kernel_rfl) ?_ _
                        have bH := hS.1
                        clear hS HS
                        have HB9 := Lib.hid (Ext.trans HB8.out bH)
                        clear bH f1 f2
                        have HE : Hid (hitB (nn : Int) ds hq1 = (false)) := by show _ = _; unfold hitB; rw [decide_eq_false (show ¬ (nn : Int) < atOf hq1 + manyOf hq1 by have := HNO.out; omega)]; simp
                        cases gb with
                        | true =>
                          go_wp2
                          go_roundw
                          case rel => exact ⟨q + 1, (true || (false)), HLJ.out, by first | exact round_same HWJ | go_num, rfl, (HST.out (false)).2 (by rw [HE.out]; simp), HB9.out⟩
                          case measure => first | exact round_less HWJ HLJ.out | (have h := HLJ.out; simp [intOf]; omega)
                        | false =>
                          go_wp2
                          go_roundw
                          case rel => exact ⟨q + 1, (false || (false)), HLJ.out, by first | exact round_same HWJ | go_num, rfl, (HST.out (false)).2 (by rw [HE.out]; simp), HB9.out⟩
                          case measure => first | exact round_less HWJ HLJ.out | (have h := HLJ.out; simp [intOf]; omega)
                    · have HNO : Hid (¬ atOf hq1 ≤ (nn : Int)) := of_decide_eq_false f1
                      go_upto_region 22 with fail
                      have HS : Hid (∀ w', Below wk.heap.size wk w' → (Below wk.heap.size wk w' ∧ (∀ p, w'.cell? ⟨gk, p, none⟩ = (#[.int .u8 ((kiOf hq1).toNat : Int), .int .i64 (atOf hq1), .int .i64 (manyOf hq1), .slice Ah (datOf hq1).length ch] : Array Value).toList[p]?))) := fun w' b => ⟨b, (K2.next b).cell⟩
                      refine wp_region_held_drew (S := fun w' => Below wk.heap.size wk w' ∧ (∀ p, w'.cell? ⟨gk, p, none⟩ = (#[.int .u8 ((kiOf hq1).toNat : Int), .int .i64 (atOf hq1), .int .i64 (manyOf hq1), .slice Ah (datOf hq1).length ch] : Array Value).toList[p]?)) (by kernel_rfl) (HS.out _ (Ext.drew (Below.refl _ _))) (fun hS => ?_)
                      refine wpAnyH_take (i := 0) (oi := _) (v := ?_) rfl (by kernel_rfl) (by kernel_rfl) (by kernel_rfl) (fun _ _ _ h => h) (Or.inl ⟨by rfl, ?_⟩) hS ?_
                      rotate_left
                      · (intro w hSw; (try dsimp only at hSw); go_simp; (try with_reducible rfl))
                      rotate_left
                      simp only [Act.put, List.getElem_toArray, List.getElem_cons_zero, List.getElem_cons_succ, List.setIfInBounds_toArray, List.set_cons_zero, List.set_cons_succ]
                      refine wpAnyH_take (i := 1) (oi := _) (v := ?_) rfl (by kernel_rfl) (by kernel_rfl) (by kernel_rfl) (fun _ _ _ h => h) (Or.inl ⟨by rfl, ?_⟩) hS ?_
                      rotate_left
                      · (intro w hSw; (try dsimp only at hSw); go_simp; (try with_reducible rfl))
                      rotate_left
                      simp only [Act.put, List.getElem_toArray, List.getElem_cons_zero, List.getElem_cons_succ, List.setIfInBounds_toArray, List.set_cons_zero, List.set_cons_succ]
                      refine wpAnyH_take (i := 2) (oi := _) (v := ?_) rfl (by kernel_rfl) (by kernel_rfl) (by kernel_rfl) (fun _ _ _ h => h) (Or.inl ⟨by rfl, ?_⟩) hS ?_
                      rotate_left
                      · (intro w hSw; (try dsimp only at hSw); go_simp; (try with_reducible rfl))
                      rotate_left
                      simp only [Act.put, List.getElem_toArray, List.getElem_cons_zero, List.getElem_cons_succ, List.setIfInBounds_toArray, List.set_cons_zero, List.set_cons_succ]
                      refine wpAnyH_take (i := 3) (oi := _) (v := ?_) rfl (by kernel_rfl) (by kernel_rfl) (by kernel_rfl) (fun _ _ _ h => h) (Or.inr ⟨by rfl, ?_⟩) hS ?_
                      rotate_left
                      · rfl
                      rotate_left
                      simp only [Act.put, List.getElem_toArray, List.getElem_cons_zero, List.getElem_cons_succ, List.setIfInBounds_toArray, List.set_cons_zero, List.set_cons_succ]
                      refine wpAnyH_take (i := 4) (oi := _) (v := ?_) rfl (by kernel_rfl) (by kernel_rfl) (by kernel_rfl) (fun _ _ _ h => h) (Or.inr ⟨by rfl, ?_⟩) hS ?_
                      rotate_left
                      · rfl
                      rotate_left
                      simp only [Act.put, List.getElem_toArray, List.getElem_cons_zero, List.getElem_cons_succ, List.setIfInBounds_toArray, List.set_cons_zero, List.set_cons_succ]
                      refine wpAnyH_take (i := 5) (oi := _) (v := ?_) rfl (by kernel_rfl) (by kernel_rfl) (by kernel_rfl) (fun _ _ _ h => h) (Or.inr ⟨by rfl, ?_⟩) hS ?_
                      rotate_left
                      · rfl
                      rotate_left
                      simp only [Act.put, List.getElem_toArray, List.getElem_cons_zero, List.getElem_cons_succ, List.setIfInBounds_toArray, List.set_cons_zero, List.set_cons_succ]
                      refine wpAnyH_take (i := 6) (oi := _) (v := ?_) rfl (by kernel_rfl) (by kernel_rfl) (by kernel_rfl) (fun _ _ _ h => h) (Or.inr ⟨by rfl, ?_⟩) hS ?_
                      rotate_left
                      · rfl
                      rotate_left
                      simp only [Act.put, List.getElem_toArray, List.getElem_cons_zero, List.getElem_cons_succ, List.setIfInBounds_toArray, List.set_cons_zero, List.set_cons_succ]
                      refine wpAnyH_take (i := 7) (oi := _) (v := ?_) rfl (by kernel_rfl) (by kernel_rfl) (by kernel_rfl) (fun _ _ _ h => h) (Or.inl ⟨by rfl, ?_⟩) hS ?_
                      rotate_left
                      · (intro w hSw; (try dsimp only at hSw); go_simp; (try with_reducible rfl))
                      rotate_left
                      simp only [Act.put, List.getElem_toArray, List.getElem_cons_zero, List.getElem_cons_succ, List.setIfInBounds_toArray, List.set_cons_zero, List.set_cons_succ]
                      refine wpAnyH_take (i := 8) (oi := _) (v := ?_) rfl (by kernel_rfl) (by kernel_rfl) (by kernel_rfl) (fun _ _ _ h => h) (Or.inl ⟨by rfl, ?_⟩) hS ?_
                      rotate_left
                      · (intro w hSw; (try dsimp only at hSw); go_simp; (try with_reducible rfl))
                      rotate_left
                      simp only [Act.put, List.getElem_toArray, List.getElem_cons_zero, List.getElem_cons_succ, List.setIfInBounds_toArray, List.set_cons_zero, List.set_cons_succ]
                      refine wpAnyH_take (i := 9) (oi := _) (v := ?_) rfl (by kernel_rfl) (by kernel_rfl) (by kernel_rfl) (fun _ _ _ h => h) (Or.inr ⟨by rfl, ?_⟩) hS ?_
                      rotate_left
                      · rfl
                      rotate_left
                      simp only [Act.put, List.getElem_toArray, List.getElem_cons_zero, List.getElem_cons_succ, List.setIfInBounds_toArray, List.set_cons_zero, List.set_cons_succ]
                      refine wpAnyH_take (i := 10) (oi := _) (v := ?_) rfl (by kernel_rfl) (by kernel_rfl) (by kernel_rfl) (fun _ _ _ h => h) (Or.inr ⟨by rfl, ?_⟩) hS ?_
                      rotate_left
                      · rfl
                      rotate_left
                      simp only [Act.put, List.getElem_toArray, List.getElem_cons_zero, List.getElem_cons_succ, List.setIfInBounds_toArray, List.set_cons_zero, List.set_cons_succ]
                      refine wpAnyH_take (i := 11) (oi := _) (v := ?_) rfl (by kernel_rfl) (by kernel_rfl) (by kernel_rfl) (fun _ _ _ h => h) (Or.inr ⟨by rfl, ?_⟩) hS ?_
                      rotate_left
                      · rfl
                      rotate_left
                      simp only [Act.put, List.getElem_toArray, List.getElem_cons_zero, List.getElem_cons_succ, List.setIfInBounds_toArray, List.set_cons_zero, List.set_cons_succ]
                      refine wpAnyH_take (i := 12) (oi := _) (v := ?_) rfl (by kernel_rfl) (by kernel_rfl) (by kernel_rfl) (fun _ _ _ h => h) (Or.inr ⟨by rfl, ?_⟩) hS ?_
                      rotate_left
                      · rfl
                      rotate_left
                      simp only [Act.put, List.getElem_toArray, List.getElem_cons_zero, List.getElem_cons_succ, List.setIfInBounds_toArray, List.set_cons_zero, List.set_cons_succ]
                      refine wpAnyH_take (i := 13) (oi := _) (v := ?_) rfl (by kernel_rfl) (by kernel_rfl) (by kernel_rfl) (fun _ _ _ h => h) (Or.inr ⟨by rfl, ?_⟩) hS ?_
                      rotate_left
                      · rfl
                      rotate_left
                      simp only [Act.put, List.getElem_toArray, List.getElem_cons_zero, List.getElem_cons_succ, List.setIfInBounds_toArray, List.set_cons_zero, List.set_cons_succ]
                      refine wpAnyH_take (i := 14) (oi := _) (v := ?_) rfl (by kernel_rfl) (by kernel_rfl) (by kernel_rfl) (fun _ _ _ h => h) (Or.inr ⟨by rfl, ?_⟩) hS ?_
                      rotate_left
                      · rfl
                      rotate_left
                      simp only [Act.put, List.getElem_toArray, List.getElem_cons_zero, List.getElem_cons_succ, List.setIfInBounds_toArray, List.set_cons_zero, List.set_cons_succ]
                      refine wpAnyH_take (i := 15) (oi := _) (v := ?_) rfl (by kernel_rfl) (by kernel_rfl) (by kernel_rfl) (fun _ _ _ h => h) (Or.inr ⟨by rfl, ?_⟩) hS ?_
                      rotate_left
                      · rfl
                      rotate_left
                      simp only [Act.put, List.getElem_toArray, List.getElem_cons_zero, List.getElem_cons_succ, List.setIfInBounds_toArray, List.set_cons_zero, List.set_cons_succ]
                      refine wpAnyH_take (i := 16) (oi := _) (v := ?_) rfl (by kernel_rfl) (by kernel_rfl) (by kernel_rfl) (fun _ _ _ h => h) (Or.inr ⟨by rfl, ?_⟩) hS ?_
                      rotate_left
                      · rfl
                      rotate_left
                      simp only [Act.put, List.getElem_toArray, List.getElem_cons_zero, List.getElem_cons_succ, List.setIfInBounds_toArray, List.set_cons_zero, List.set_cons_succ]
                      refine wpAnyH_take (i := 17) (oi := _) (v := ?_) rfl (by kernel_rfl) (by kernel_rfl) (by kernel_rfl) (fun _ _ _ h => h) (Or.inr ⟨by rfl, ?_⟩) hS ?_
                      rotate_left
                      · rfl
                      rotate_left
                      simp only [Act.put, List.getElem_toArray, List.getElem_cons_zero, List.getElem_cons_succ, List.setIfInBounds_toArray, List.set_cons_zero, List.set_cons_succ]
                      refine wpAnyH_take (i := 18) (oi := _) (v := ?_) rfl (by kernel_rfl) (by kernel_rfl) (by kernel_rfl) (fun _ _ _ h => h) (Or.inr ⟨by rfl, ?_⟩) hS ?_
                      rotate_left
                      · rfl
                      rotate_left
                      simp only [Act.put, List.getElem_toArray, List.getElem_cons_zero, List.getElem_cons_succ, List.setIfInBounds_toArray, List.set_cons_zero, List.set_cons_succ]
                      refine wpAnyH_take (i := 19) (oi := _) (v := ?_) rfl (by kernel_rfl) (by kernel_rfl) (by kernel_rfl) (fun _ _ _ h => h) (Or.inr ⟨by rfl, ?_⟩) hS ?_
                      rotate_left
                      · rfl
                      rotate_left
                      simp only [Act.put, List.getElem_toArray, List.getElem_cons_zero, List.getElem_cons_succ, List.setIfInBounds_toArray, List.set_cons_zero, List.set_cons_succ]
                      refine wpAnyH_take (i := 20) (oi := _) (v := ?_) rfl (by kernel_rfl) (by kernel_rfl) (by kernel_rfl) (fun _ _ _ h => h) (Or.inr ⟨by rfl, ?_⟩) hS ?_
                      rotate_left
                      · rfl
                      rotate_left
                      simp only [Act.put, List.getElem_toArray, List.getElem_cons_zero, List.getElem_cons_succ, List.setIfInBounds_toArray, List.set_cons_zero, List.set_cons_succ]
                      refine wpAnyH_take (i := 21) (oi := _) (v := ?_) rfl (by kernel_rfl) (by kernel_rfl) (by kernel_rfl) (fun _ _ _ h => h) (Or.inl ⟨by rfl, ?_⟩) hS ?_
                      rotate_left
                      · (intro w hSw; (try dsimp only at hSw); go_simp; (try with_reducible rfl))
                      rotate_left
                      simp only [Act.put, List.getElem_toArray, List.getElem_cons_zero, List.getElem_cons_succ, List.setIfInBounds_toArray, List.set_cons_zero, List.set_cons_succ]
                      refine wpAnyH_take (i := 22) (oi := _) (v := ?_) rfl (by kernel_rfl) (by kernel_rfl) (by kernel_rfl) (fun _ _ _ h => h) (Or.inl ⟨by rfl, ?_⟩) hS ?_
                      rotate_left
                      · (intro w hSw; (try dsimp only at hSw); go_simp; (try with_reducible rfl))
                      rotate_left
                      simp only [Act.put, List.getElem_toArray, List.getElem_cons_zero, List.getElem_cons_succ, List.setIfInBounds_toArray, List.set_cons_zero, List.set_cons_succ]
                      refine wpAnyH_done (by kernel_rfl) ?_ _
                      have bH := hS.1
                      clear hS HS
                      have HB9 := Lib.hid (Ext.trans HB8.out bH)
                      clear bH f1
                      have HE : Hid (hitB (nn : Int) ds hq1 = (false)) := by show _ = _; unfold hitB; rw [decide_eq_false (show ¬ atOf hq1 ≤ (nn : Int) by have := HNO.out; omega)]; simp
                      cases gb with
                      | true =>
                        go_wp2
                        go_roundw
                        case rel => exact ⟨q + 1, (true || (false)), HLJ.out, by first | exact round_same HWJ | go_num, rfl, (HST.out (false)).2 (by rw [HE.out]; simp), HB9.out⟩
                        case measure => first | exact round_less HWJ HLJ.out | (have h := HLJ.out; simp [intOf]; omega)
                      | false =>
                        go_wp2
                        go_roundw
                        case rel => exact ⟨q + 1, (false || (false)), HLJ.out, by first | exact round_same HWJ | go_num, rfl, (HST.out (false)).2 (by rw [HE.out]; simp), HB9.out⟩
                        case measure => first | exact round_less HWJ HLJ.out | (have h := HLJ.out; simp [intOf]; omega)
                  · rcases Bool.eq_false_or_eq_true (((kiOf hq1).toNat : Int) == 3) with e3 | e3
                    · have HKW : Hid (kWrites ((kiOf hq1).toNat : Int) = true ∧ kBytes ((kiOf hq1).toNat : Int) = true) := by
                        have h1 : ((kiOf hq1).toNat : Int) = 3 := by simpa using e3
                        rw [h1]
                        exact ⟨by decide, by decide⟩
                      rcases Bool.eq_false_or_eq_true (decide (atOf hq1 ≤ (nn : Int))) with f1 | f1
                      · rcases Bool.eq_false_or_eq_true (decide ((nn : Int) - atOf hq1 < manyOf hq1)) with f2 | f2
                        · obtain ⟨i, hi⟩ : ∃ i : Nat, (i : Int) = (nn : Int) - atOf hq1 := ⟨((nn : Int) - atOf hq1).toNat, by have := of_decide_eq_true f1; omega⟩
                          have HIN := Lib.hid (And.intro (of_decide_eq_true f1) (of_decide_eq_true f2))
                          have HLN : Hid (i * 128 + 128 ≤ (datOf hq1).length) := by
                            have h1 := HFITS.out.2
                            unfold kWant at h1
                            rw [if_pos HKW.out.2] at h1
                            have := HIN.out
                            show _ ≤ _
                            omega
                          have hrb1 := HRB1.out.below HBH.out
                          obtain ⟨db, dof, rfl⟩ : ∃ db dof, Ah = some ⟨db, dof, none⟩ := by
                            rcases hrb1.bytes_bs.2 with h0 | ⟨db, dof, e, _⟩
                            · have h1 : datOf hq1 = [] := by simpa using h0
                              have := HLN.out
                              rw [h1] at this
                              simp at this
                            · exact ⟨db, dof, e⟩
                          have hcl : (datOf hq1).length ≤ ch := by obtain ⟨_, c', e, hn, _⟩ := rdin_sl.1 hrb1; injection e with e _; injection e with _ _ e3; rw [e3]; exact hn
                          have hp1 := (hrb1.part HLN.out).bytes_bs
                          rw [part128_len HLN.out] at hp1
                          have HP1 := Lib.hid hp1
                          have HIE := Lib.hid hi
                          have i8 : i < 8 := by have := HFITS.out.1.2; have := HIN.out; omega
                          obtain ⟨p1, hp1e⟩ : ∃ p1 : Nat, p1 = i * 128 := ⟨_, rfl⟩
                          obtain ⟨p2, hp2e⟩ : ∃ p2 : Nat, p2 = i * 128 + 128 := ⟨_, rfl⟩
                          rw [← hp1e] at HP1
                          have w1 : IntKind.i64.wrap ((i : Int) * 128) = (p1 : Int) := by rw [i64_fit (by omega)]; omega
                          have w2 : IntKind.i64.wrap ((p1 : Int) + 128) = (p2 : Int) := by rw [i64_fit (by omega)]; omega
                          have hln := HLN.out
                          have w3 : p1 ≤ p2 := by omega
                          have w4 : p2 ≤ ch := by omega
                          have w5 : ¬ ch = p1 := by omega
                          have w6 : p2 - p1 = 128 := by omega
                          clear hp1e hp2e hln i8
                          rw [← hi] at f2 ⊢
                          clear hi hrb1 hp1 hcl f1
                          go_upto_region 22 with fail
                          have HS : Hid (∀ w', Below wk.heap.size wk w' → (Below wk.heap.size wk w' ∧ (∀ p, w'.cell? ⟨gk, p, none⟩ = (#[.int .u8 ((kiOf hq1).toNat : Int), .int .i64 (atOf hq1), .int .i64 (manyOf hq1), .slice (some ⟨db, dof, none⟩) (datOf hq1).length ch] : Array Value).toList[p]?) ∧ Bs w' (some ⟨db, dof + p1, none⟩) 128 (part128 (datOf hq1) i) ∧ Bs w' D ds.length ds)) := fun w' b => ⟨b, (K2.next b).cell, HP1.out.below b, (HD.out.bytes_bs.below (Ext.trans HT6.out HB8.out)).below b⟩
                          refine wp_region_held_drew (S := fun w' => Below wk.heap.size wk w' ∧ (∀ p, w'.cell? ⟨gk, p, none⟩ = (#[.int .u8 ((kiOf hq1).toNat : Int), .int .i64 (atOf hq1), .int .i64 (manyOf hq1), .slice (some ⟨db, dof, none⟩) (datOf hq1).length ch] : Array Value).toList[p]?) ∧ Bs w' (some ⟨db, dof + p1, none⟩) 128 (part128 (datOf hq1) i) ∧ Bs w' D ds.length ds) (by kernel_rfl) (HS.out _ (Ext.drew (Below.refl _ _))) (fun hS => ?_)
                          refine wpAnyH_take (i := 0) (oi := _) (v := ?_) rfl (by kernel_rfl) (by kernel_rfl) (by kernel_rfl) (fun _ _ _ h => h) (Or.inl ⟨by rfl, ?_⟩) hS ?_
                          rotate_left
                          · (intro w hSw; (try dsimp only at hSw); go_simp; (try with_reducible rfl))
                          rotate_left
                          simp only [Act.put, List.getElem_toArray, List.getElem_cons_zero, List.getElem_cons_succ, List.setIfInBounds_toArray, List.set_cons_zero, List.set_cons_succ]
                          refine wpAnyH_take (i := 1) (oi := _) (v := ?_) rfl (by kernel_rfl) (by kernel_rfl) (by kernel_rfl) (fun _ _ _ h => h) (Or.inl ⟨by rfl, ?_⟩) hS ?_
                          rotate_left
                          · (intro w hSw; (try dsimp only at hSw); go_simp; (try with_reducible rfl))
                          rotate_left
                          simp only [Act.put, List.getElem_toArray, List.getElem_cons_zero, List.getElem_cons_succ, List.setIfInBounds_toArray, List.set_cons_zero, List.set_cons_succ]
                          refine wpAnyH_take (i := 2) (oi := _) (v := ?_) rfl (by kernel_rfl) (by kernel_rfl) (by kernel_rfl) (fun _ _ _ h => h) (Or.inl ⟨by rfl, ?_⟩) hS ?_
                          rotate_left
                          · (intro w hSw; (try dsimp only at hSw); go_simp; (try with_reducible rfl))
                          rotate_left
                          simp only [Act.put, List.getElem_toArray, List.getElem_cons_zero, List.getElem_cons_succ, List.setIfInBounds_toArray, List.set_cons_zero, List.set_cons_succ]
                          refine wpAnyH_take (i := 3) (oi := _) (v := ?_) rfl (by kernel_rfl) (by kernel_rfl) (by kernel_rfl) (fun _ _ _ h => h) (Or.inl ⟨by rfl, ?_⟩) hS ?_
                          rotate_left
                          · (intro w hSw; (try dsimp only at hSw); go_simp; (try with_reducible rfl))
                          rotate_left
                          simp only [Act.put, List.getElem_toArray, List.getElem_cons_zero, List.getElem_cons_succ, List.setIfInBounds_toArray, List.set_cons_zero, List.set_cons_succ]
                          refine wpAnyH_take (i := 4) (oi := _) (v := ?_) rfl (by kernel_rfl) (by kernel_rfl) (by kernel_rfl) (fun _ _ _ h => h) (Or.inl ⟨by rfl, ?_⟩) hS ?_
                          rotate_left
                          · (intro w hSw; (try dsimp only at hSw); go_simp; (try with_reducible rfl))
                          rotate_left
                          simp only [Act.put, List.getElem_toArray, List.getElem_cons_zero, List.getElem_cons_succ, List.setIfInBounds_toArray, List.set_cons_zero, List.set_cons_succ]
                          refine wpAnyH_take (i := 5) (oi := _) (v := ?_) rfl (by kernel_rfl) (by kernel_rfl) (by kernel_rfl) (fun _ _ _ h => h) (Or.inl ⟨by rfl, ?_⟩) hS ?_
                          rotate_left
                          · (intro w hSw; (try dsimp only at hSw); go_simp; (try with_reducible rfl))
                          rotate_left
                          simp only [Act.put, List.getElem_toArray, List.getElem_cons_zero, List.getElem_cons_succ, List.setIfInBounds_toArray, List.set_cons_zero, List.set_cons_succ]
                          refine wpAnyH_take (i := 6) (oi := _) (v := ?_) rfl (by kernel_rfl) (by kernel_rfl) (by kernel_rfl) (fun _ _ _ h => h) (Or.inl ⟨by rfl, ?_⟩) hS ?_
                          rotate_left
                          · (intro w hSw; (try dsimp only at hSw); go_simp; (try with_reducible rfl))
                          rotate_left
                          simp only [Act.put, List.getElem_toArray, List.getElem_cons_zero, List.getElem_cons_succ, List.setIfInBounds_toArray, List.set_cons_zero, List.set_cons_succ]
                          refine wpAnyH_take (i := 7) (oi := _) (v := ?_) rfl (by kernel_rfl) (by kernel_rfl) (by kernel_rfl) (fun _ _ _ h => h) (Or.inl ⟨by rfl, ?_⟩) hS ?_
                          rotate_left
                          · (intro w hSw; (try dsimp only at hSw); go_simp; (try with_reducible rfl))
                          rotate_left
                          simp only [Act.put, List.getElem_toArray, List.getElem_cons_zero, List.getElem_cons_succ, List.setIfInBounds_toArray, List.set_cons_zero, List.set_cons_succ]
                          refine wpAnyH_take (i := 8) (oi := _) (v := ?_) rfl (by kernel_rfl) (by kernel_rfl) (by kernel_rfl) (fun _ _ _ h => h) (Or.inl ⟨by rfl, ?_⟩) hS ?_
                          rotate_left
                          · (intro w hSw; (try dsimp only at hSw); go_simp; (try with_reducible rfl))
                          rotate_left
                          simp only [Act.put, List.getElem_toArray, List.getElem_cons_zero, List.getElem_cons_succ, List.setIfInBounds_toArray, List.set_cons_zero, List.set_cons_succ]
                          refine wpAnyH_take (i := 9) (oi := _) (v := ?_) rfl (by kernel_rfl) (by kernel_rfl) (by kernel_rfl) (fun _ _ _ h => h) (Or.inl ⟨by rfl, ?_⟩) hS ?_
                          rotate_left
                          · (intro w hSw; (try dsimp only at hSw); go_simp; (try with_reducible rfl))
                          rotate_left
                          simp only [Act.put, List.getElem_toArray, List.getElem_cons_zero, List.getElem_cons_succ, List.setIfInBounds_toArray, List.set_cons_zero, List.set_cons_succ]
                          refine wpAnyH_take (i := 10) (oi := _) (v := ?_) rfl (by kernel_rfl) (by kernel_rfl) (by kernel_rfl) (fun _ _ _ h => h) (Or.inl ⟨by rfl, ?_⟩) hS ?_
                          rotate_left
                          · (intro w hSw; (try dsimp only at hSw); go_simp; (try with_reducible rfl))
                          rotate_left
                          simp only [Act.put, List.getElem_toArray, List.getElem_cons_zero, List.getElem_cons_succ, List.setIfInBounds_toArray, List.set_cons_zero, List.set_cons_succ]
                          refine wpAnyH_take (i := 11) (oi := _) (v := ?_) rfl (by kernel_rfl) (by kernel_rfl) (by kernel_rfl) (fun _ _ _ h => h) (Or.inl ⟨by rfl, ?_⟩) hS ?_
                          rotate_left
                          · (intro w hSw; (try dsimp only at hSw); go_simp; (try with_reducible rfl))
                          rotate_left
                          simp only [Act.put, List.getElem_toArray, List.getElem_cons_zero, List.getElem_cons_succ, List.setIfInBounds_toArray, List.set_cons_zero, List.set_cons_succ]
                          refine wpAnyH_take (i := 12) (oi := _) (v := ?_) rfl (by kernel_rfl) (by kernel_rfl) (by kernel_rfl) (fun _ _ _ h => h) (Or.inl ⟨by rfl, ?_⟩) hS ?_
                          rotate_left
                          · (intro w hSw; (try dsimp only at hSw); go_simp; (try with_reducible rfl))
                          rotate_left
                          simp only [Act.put, List.getElem_toArray, List.getElem_cons_zero, List.getElem_cons_succ, List.setIfInBounds_toArray, List.set_cons_zero, List.set_cons_succ]
                          refine wpAnyH_take (i := 13) (oi := _) (v := ?_) rfl (by kernel_rfl) (by kernel_rfl) (by kernel_rfl) (fun _ _ _ h => h) (Or.inl ⟨by rfl, ?_⟩) hS ?_
                          rotate_left
                          · (intro w hSw; (try dsimp only at hSw); go_simp; (try with_reducible rfl))
                          rotate_left
                          simp only [Act.put, List.getElem_toArray, List.getElem_cons_zero, List.getElem_cons_succ, List.setIfInBounds_toArray, List.set_cons_zero, List.set_cons_succ]
                          refine wpAnyH_take (i := 14) (oi := _) (v := ?_) rfl (by kernel_rfl) (by kernel_rfl) (by kernel_rfl) (fun _ _ _ h => h) (Or.inl ⟨by rfl, ?_⟩) hS ?_
                          rotate_left
                          · (intro w hSw; (try dsimp only at hSw); go_simp; (try with_reducible rfl))
                          rotate_left
                          simp only [Act.put, List.getElem_toArray, List.getElem_cons_zero, List.getElem_cons_succ, List.setIfInBounds_toArray, List.set_cons_zero, List.set_cons_succ]
                          refine wpAnyH_take (i := 15) (oi := _) (v := ?_) rfl (by kernel_rfl) (by kernel_rfl) (by kernel_rfl) (fun _ _ _ h => h) (Or.inl ⟨by rfl, ?_⟩) hS ?_
                          rotate_left
                          · (intro w hSw; (try dsimp only at hSw); go_simp; (try with_reducible rfl))
                          rotate_left
                          simp only [Act.put, List.getElem_toArray, List.getElem_cons_zero, List.getElem_cons_succ, List.setIfInBounds_toArray, List.set_cons_zero, List.set_cons_succ]
                          refine wpAnyH_take (i := 16) (oi := _) (v := ?_) rfl (by kernel_rfl) (by kernel_rfl) (by kernel_rfl) (fun _ _ _ h => h) (Or.inl ⟨by rfl, ?_⟩) hS ?_
                          rotate_left
                          · (intro w hSw; (try dsimp only at hSw); go_simp; (try with_reducible rfl))
                          rotate_left
                          simp only [Act.put, List.getElem_toArray, List.getElem_cons_zero, List.getElem_cons_succ, List.setIfInBounds_toArray, List.set_cons_zero, List.set_cons_succ]
                          refine wpAnyH_take (i := 17) (oi := _) (v := ?_) rfl (by kernel_rfl) (by kernel_rfl) (by kernel_rfl) (fun _ _ _ h => h) (Or.inl ⟨by rfl, ?_⟩) hS ?_
                          rotate_left
                          · (intro w hSw; have sq := run_string_bs (P := Try.prog) (ch - p1) 29 9 5 Try.underlying29 Try.underlying5 Try.underlying9 hSw.2.2.1; (try dsimp only at hSw); go_simp; (try with_reducible rfl))
                          rotate_left
                          try simp only [Act.put, List.getElem_toArray, List.getElem_cons_zero, List.getElem_cons_succ, List.setIfInBounds_toArray, List.set_cons_zero, List.set_cons_succ]
                          refine wpAnyH_take (i := 18) (oi := _) (v := ?_) rfl (by kernel_rfl) (by kernel_rfl) (by kernel_rfl) (fun _ _ _ h => h) (Or.inl ⟨by rfl, ?_⟩) hS ?_
                          rotate_left
                          · (intro w hSw; (try dsimp only at hSw); go_simp; (try with_reducible rfl))
                          rotate_left
                          simp only [Act.put, List.getElem_toArray, List.getElem_cons_zero, List.getElem_cons_succ, List.setIfInBounds_toArray, List.set_cons_zero, List.set_cons_succ]
                          refine wpAnyH_take (i := 19) (oi := _) (v := ?_) rfl (by kernel_rfl) (by kernel_rfl) (by kernel_rfl) (fun _ _ _ h => h) (Or.inl ⟨by rfl, ?_⟩) hS ?_
                          rotate_left
                          · (intro w hSw; have sq := run_string_bs (P := Try.prog) dc 29 9 5 Try.underlying29 Try.underlying5 Try.underlying9 hSw.2.2.2; (try dsimp only at hSw); go_simp; (try with_reducible rfl))
                          rotate_left
                          try simp only [Act.put, List.getElem_toArray, List.getElem_cons_zero, List.getElem_cons_succ, List.setIfInBounds_toArray, List.set_cons_zero, List.set_cons_succ]
                          refine wpAnyH_take (i := 20) (oi := _) (v := ?_) rfl (by kernel_rfl) (by kernel_rfl) (by kernel_rfl) (fun _ _ _ h => h) (Or.inl ⟨by rfl, ?_⟩) hS ?_
                          rotate_left
                          · (intro w hSw; (try dsimp only at hSw); go_simp; (try with_reducible rfl))
                          rotate_left
                          simp only [Act.put, List.getElem_toArray, List.getElem_cons_zero, List.getElem_cons_succ, List.setIfInBounds_toArray, List.set_cons_zero, List.set_cons_succ]
                          refine wpAnyH_take (i := 21) (oi := _) (v := ?_) rfl (by kernel_rfl) (by kernel_rfl) (by kernel_rfl) (fun _ _ _ h => h) (Or.inl ⟨by rfl, ?_⟩) hS ?_
                          rotate_left
                          · (intro w hSw; (try dsimp only at hSw); go_simp; (try with_reducible rfl))
                          rotate_left
                          simp only [Act.put, List.getElem_toArray, List.getElem_cons_zero, List.getElem_cons_succ, List.setIfInBounds_toArray, List.set_cons_zero, List.set_cons_succ]
                          refine wpAnyH_take (i := 22) (oi := _) (v := ?_) rfl (by kernel_rfl) (by kernel_rfl) (by kernel_rfl) (fun _ _ _ h => h) (Or.inl ⟨by rfl, ?_⟩) hS ?_
                          rotate_left
                          · (intro w hSw; (try dsimp only at hSw); go_simp; (try with_reducible rfl))
                          rotate_left
                          simp only [Act.put, List.getElem_toArray, List.getElem_cons_zero, List.getElem_cons_succ, List.setIfInBounds_toArray, List.set_cons_zero, List.set_cons_succ]
                          refine wpAnyH_done (by kernel_rfl) ?_ _
                          have bH := hS.1
                          clear hS HS
                          have HB9 := Lib.hid (Ext.trans HB8.out bH)
                          clear bH f2 w1 w2 w3 w4 w5 w6
                          have HE : Hid (hitB (nn : Int) ds hq1 = (part128 (datOf hq1) i == ds)) := by have h1 := HIN.out; have h2 := HIE.out; show _ = _; unfold hitB blk; rw [if_pos HKW.out.2, HKW.out.1, decide_eq_true (show atOf hq1 ≤ (nn : Int) from h1.1), decide_eq_true (show (nn : Int) < atOf hq1 + manyOf hq1 by omega), show ((nn : Int) - atOf hq1).toNat = i by omega]; simp
                          cases gb with
                          | true =>
                            go_wp2
                            go_roundw
                            case rel => exact ⟨q + 1, (true || (part128 (datOf hq1) i == ds)), HLJ.out, by first | exact round_same HWJ | go_num, rfl, (HST.out (part128 (datOf hq1) i == ds)).2 (by rw [HE.out]; simp), HB9.out⟩
                            case measure => first | exact round_less HWJ HLJ.out | (have h := HLJ.out; simp [intOf]; omega)
                          | false =>
                            go_wp2
                            go_roundw
                            case rel => exact ⟨q + 1, (false || (part128 (datOf hq1) i == ds)), HLJ.out, by first | exact round_same HWJ | go_num, rfl, (HST.out (part128 (datOf hq1) i == ds)).2 (by rw [HE.out]; simp), HB9.out⟩
                            case measure => first | exact round_less HWJ HLJ.out | (have h := HLJ.out; simp [intOf]; omega)
                        · have HNO : Hid (¬ (nn : Int) - atOf hq1 < manyOf hq1) := of_decide_eq_false f2
                          go_upto_region 22 with fail
                          have HS : Hid (∀ w', Below wk.heap.size wk w' → (Below wk.heap.size wk w' ∧ (∀ p, w'.cell? ⟨gk, p, none⟩ = (#[.int .u8 ((kiOf hq1).toNat : Int), .int .i64 (atOf hq1), .int .i64 (manyOf hq1), .slice Ah (datOf hq1).length ch] : Array Value).toList[p]?))) := fun w' b => ⟨b, (K2.next b).cell⟩
                          refine wp_region_held_drew (S := fun w' => Below wk.heap.size wk w' ∧ (∀ p, w'.cell? ⟨gk, p, none⟩ = (#[.int .u8 ((kiOf hq1).toNat : Int), .int .i64 (atOf hq1), .int .i64 (manyOf hq1), .slice Ah (datOf hq1).length ch] : Array Value).toList[p]?)) (by kernel_rfl) (HS.out _ (Ext.drew (Below.refl _ _))) (fun hS => ?_)
                          refine wpAnyH_take (i := 0) (oi := _) (v := ?_) rfl (by kernel_rfl) (by kernel_rfl) (by kernel_rfl) (fun _ _ _ h => h) (Or.inl ⟨by rfl, ?_⟩) hS ?_
                          rotate_left
                          · (intro w hSw; (try dsimp only at hSw); go_simp; (try with_reducible rfl))
                          rotate_left
                          simp only [Act.put, List.getElem_toArray, List.getElem_cons_zero, List.getElem_cons_succ, List.setIfInBounds_toArray, List.set_cons_zero, List.set_cons_succ]
                          refine wpAnyH_take (i := 1) (oi := _) (v := ?_) rfl (by kernel_rfl) (by kernel_rfl) (by kernel_rfl) (fun _ _ _ h => h) (Or.inl ⟨by rfl, ?_⟩) hS ?_
                          rotate_left
                          · (intro w hSw; (try dsimp only at hSw); go_simp; (try with_reducible rfl))
                          rotate_left
                          simp only [Act.put, List.getElem_toArray, List.getElem_cons_zero, List.getElem_cons_succ, List.setIfInBounds_toArray, List.set_cons_zero, List.set_cons_succ]
                          refine wpAnyH_take (i := 2) (oi := _) (v := ?_) rfl (by kernel_rfl) (by kernel_rfl) (by kernel_rfl) (fun _ _ _ h => h) (Or.inl ⟨by rfl, ?_⟩) hS ?_
                          rotate_left
                          · (intro w hSw; (try dsimp only at hSw); go_simp; (try with_reducible rfl))
                          rotate_left
                          simp only [Act.put, List.getElem_toArray, List.getElem_cons_zero, List.getElem_cons_succ, List.setIfInBounds_toArray, List.set_cons_zero, List.set_cons_succ]
                          refine wpAnyH_take (i := 3) (oi := _) (v := ?_) rfl (by kernel_rfl) (by kernel_rfl) (by kernel_rfl) (fun _ _ _ h => h) (Or.inl ⟨by rfl, ?_⟩) hS ?_
                          rotate_left
                          · (intro w hSw; (try dsimp only at hSw); go_simp; (try with_reducible rfl))
                          rotate_left
                          simp only [Act.put, List.getElem_toArray, List.getElem_cons_zero, List.getElem_cons_succ, List.setIfInBounds_toArray, List.set_cons_zero, List.set_cons_succ]
                          refine wpAnyH_take (i := 4) (oi := _) (v := ?_) rfl (by kernel_rfl) (by kernel_rfl) (by kernel_rfl) (fun _ _ _ h => h) (Or.inl ⟨by rfl, ?_⟩) hS ?_
                          rotate_left
                          · (intro w hSw; (try dsimp only at hSw); go_simp; (try with_reducible rfl))
                          rotate_left
                          simp only [Act.put, List.getElem_toArray, List.getElem_cons_zero, List.getElem_cons_succ, List.setIfInBounds_toArray, List.set_cons_zero, List.set_cons_succ]
                          refine wpAnyH_take (i := 5) (oi := _) (v := ?_) rfl (by kernel_rfl) (by kernel_rfl) (by kernel_rfl) (fun _ _ _ h => h) (Or.inl ⟨by rfl, ?_⟩) hS ?_
                          rotate_left
                          · (intro w hSw; (try dsimp only at hSw); go_simp; (try with_reducible rfl))
                          rotate_left
                          simp only [Act.put, List.getElem_toArray, List.getElem_cons_zero, List.getElem_cons_succ, List.setIfInBounds_toArray, List.set_cons_zero, List.set_cons_succ]
                          refine wpAnyH_take (i := 6) (oi := _) (v := ?_) rfl (by kernel_rfl) (by kernel_rfl) (by kernel_rfl) (fun _ _ _ h => h) (Or.inl ⟨by rfl, ?_⟩) hS ?_
                          rotate_left
                          · (intro w hSw; (try dsimp only at hSw); go_simp; (try with_reducible rfl))
                          rotate_left
                          simp only [Act.put, List.getElem_toArray, List.getElem_cons_zero, List.getElem_cons_succ, List.setIfInBounds_toArray, List.set_cons_zero, List.set_cons_succ]
                          refine wpAnyH_take (i := 7) (oi := _) (v := ?_) rfl (by kernel_rfl) (by kernel_rfl) (by kernel_rfl) (fun _ _ _ h => h) (Or.inl ⟨by rfl, ?_⟩) hS ?_
                          rotate_left
                          · (intro w hSw; (try dsimp only at hSw); go_simp; (try with_reducible rfl))
                          rotate_left
                          simp only [Act.put, List.getElem_toArray, List.getElem_cons_zero, List.getElem_cons_succ, List.setIfInBounds_toArray, List.set_cons_zero, List.set_cons_succ]
                          refine wpAnyH_take (i := 8) (oi := _) (v := ?_) rfl (by kernel_rfl) (by kernel_rfl) (by kernel_rfl) (fun _ _ _ h => h) (Or.inl ⟨by rfl, ?_⟩) hS ?_
                          rotate_left
                          · (intro w hSw; (try dsimp only at hSw); go_simp; (try with_reducible rfl))
                          rotate_left
                          simp only [Act.put, List.getElem_toArray, List.getElem_cons_zero, List.getElem_cons_succ, List.setIfInBounds_toArray, List.set_cons_zero, List.set_cons_succ]
                          refine wpAnyH_take (i := 9) (oi := _) (v := ?_) rfl (by kernel_rfl) (by kernel_rfl) (by kernel_rfl) (fun _ _ _ h => h) (Or.inr ⟨by rfl, ?_⟩) hS ?_
                          rotate_left
                          · rfl
                          rotate_left
                          simp only [Act.put, List.getElem_toArray, List.getElem_cons_zero, List.getElem_cons_succ, List.setIfInBounds_toArray, List.set_cons_zero, List.set_cons_succ]
                          refine wpAnyH_take (i := 10) (oi := _) (v := ?_) rfl (by kernel_rfl) (by kernel_rfl) (by kernel_rfl) (fun _ _ _ h => h) (Or.inr ⟨by rfl, ?_⟩) hS ?_
                          rotate_left
                          · rfl
                          rotate_left
                          simp only [Act.put, List.getElem_toArray, List.getElem_cons_zero, List.getElem_cons_succ, List.setIfInBounds_toArray, List.set_cons_zero, List.set_cons_succ]
                          refine wpAnyH_take (i := 11) (oi := _) (v := ?_) rfl (by kernel_rfl) (by kernel_rfl) (by kernel_rfl) (fun _ _ _ h => h) (Or.inr ⟨by rfl, ?_⟩) hS ?_
                          rotate_left
                          · rfl
                          rotate_left
                          simp only [Act.put, List.getElem_toArray, List.getElem_cons_zero, List.getElem_cons_succ, List.setIfInBounds_toArray, List.set_cons_zero, List.set_cons_succ]
                          refine wpAnyH_take (i := 12) (oi := _) (v := ?_) rfl (by kernel_rfl) (by kernel_rfl) (by kernel_rfl) (fun _ _ _ h => h) (Or.inr ⟨by rfl, ?_⟩) hS ?_
                          rotate_left
                          · rfl
                          rotate_left
                          simp only [Act.put, List.getElem_toArray, List.getElem_cons_zero, List.getElem_cons_succ, List.setIfInBounds_toArray, List.set_cons_zero, List.set_cons_succ]
                          refine wpAnyH_take (i := 13) (oi := _) (v := ?_) rfl (by kernel_rfl) (by kernel_rfl) (by kernel_rfl) (fun _ _ _ h => h) (Or.inr ⟨by rfl, ?_⟩) hS ?_
                          rotate_left
                          · rfl
                          rotate_left
                          simp only [Act.put, List.getElem_toArray, List.getElem_cons_zero, List.getElem_cons_succ, List.setIfInBounds_toArray, List.set_cons_zero, List.set_cons_succ]
                          refine wpAnyH_take (i := 14) (oi := _) (v := ?_) rfl (by kernel_rfl) (by kernel_rfl) (by kernel_rfl) (fun _ _ _ h => h) (Or.inr ⟨by rfl, ?_⟩) hS ?_
                          rotate_left
                          · rfl
                          rotate_left
                          simp only [Act.put, List.getElem_toArray, List.getElem_cons_zero, List.getElem_cons_succ, List.setIfInBounds_toArray, List.set_cons_zero, List.set_cons_succ]
                          refine wpAnyH_take (i := 15) (oi := _) (v := ?_) rfl (by kernel_rfl) (by kernel_rfl) (by kernel_rfl) (fun _ _ _ h => h) (Or.inr ⟨by rfl, ?_⟩) hS ?_
                          rotate_left
                          · rfl
                          rotate_left
                          simp only [Act.put, List.getElem_toArray, List.getElem_cons_zero, List.getElem_cons_succ, List.setIfInBounds_toArray, List.set_cons_zero, List.set_cons_succ]
                          refine wpAnyH_take (i := 16) (oi := _) (v := ?_) rfl (by kernel_rfl) (by kernel_rfl) (by kernel_rfl) (fun _ _ _ h => h) (Or.inr ⟨by rfl, ?_⟩) hS ?_
                          rotate_left
                          · rfl
                          rotate_left
                          simp only [Act.put, List.getElem_toArray, List.getElem_cons_zero, List.getElem_cons_succ, List.setIfInBounds_toArray, List.set_cons_zero, List.set_cons_succ]
                          refine wpAnyH_take (i := 17) (oi := _) (v := ?_) rfl (by kernel_rfl) (by kernel_rfl) (by kernel_rfl) (fun _ _ _ h => h) (Or.inr ⟨by rfl, ?_⟩) hS ?_
                          rotate_left
                          · rfl
                          rotate_left
                          simp only [Act.put, List.getElem_toArray, List.getElem_cons_zero, List.getElem_cons_succ, List.setIfInBounds_toArray, List.set_cons_zero, List.set_cons_succ]
                          refine wpAnyH_take (i := 18) (oi := _) (v := ?_) rfl (by kernel_rfl) (by kernel_rfl) (by kernel_rfl) (fun _ _ _ h => h) (Or.inr ⟨by rfl, ?_⟩) hS ?_
                          rotate_left
                          · rfl
                          rotate_left
                          simp only [Act.put, List.getElem_toArray, List.getElem_cons_zero, List.getElem_cons_succ, List.setIfInBounds_toArray, List.set_cons_zero, List.set_cons_succ]
                          refine wpAnyH_take (i := 19) (oi := _) (v := ?_) rfl (by kernel_rfl) (by kernel_rfl) (by kernel_rfl) (fun _ _ _ h => h) (Or.inr ⟨by rfl, ?_⟩) hS ?_
                          rotate_left
                          · rfl
                          rotate_left
                          simp only [Act.put, List.getElem_toArray, List.getElem_cons_zero, List.getElem_cons_succ, List.setIfInBounds_toArray, List.set_cons_zero, List.set_cons_succ]
                          refine wpAnyH_take (i := 20) (oi := _) (v := ?_) rfl (by kernel_rfl) (by kernel_rfl) (by kernel_rfl) (fun _ _ _ h => h) (Or.inr ⟨by rfl, ?_⟩) hS ?_
                          rotate_left
                          · rfl
                          rotate_left
                          simp only [Act.put, List.getElem_toArray, List.getElem_cons_zero, List.getElem_cons_succ, List.setIfInBounds_toArray, List.set_cons_zero, List.set_cons_succ]
                          refine wpAnyH_take (i := 21) (oi := _) (v := ?_) rfl (by kernel_rfl) (by kernel_rfl) (by kernel_rfl) (fun _ _ _ h => h) (Or.inl ⟨by rfl, ?_⟩) hS ?_
                          rotate_left
                          · (intro w hSw; (try dsimp only at hSw); go_simp; (try with_reducible rfl))
                          rotate_left
                          simp only [Act.put, List.getElem_toArray, List.getElem_cons_zero, List.getElem_cons_succ, List.setIfInBounds_toArray, List.set_cons_zero, List.set_cons_succ]
                          refine wpAnyH_take (i := 22) (oi := _) (v := ?_) rfl (by kernel_rfl) (by kernel_rfl) (by kernel_rfl) (fun _ _ _ h => h) (Or.inl ⟨by rfl, ?_⟩) hS ?_
                          rotate_left
                          · (intro w hSw; (try dsimp only at hSw); go_simp; (try with_reducible rfl))
                          rotate_left
                          simp only [Act.put, List.getElem_toArray, List.getElem_cons_zero, List.getElem_cons_succ, List.setIfInBounds_toArray, List.set_cons_zero, List.set_cons_succ]
                          refine wpAnyH_done (by kernel_rfl) ?_ _
                          have bH := hS.1
                          clear hS HS
                          have HB9 := Lib.hid (Ext.trans HB8.out bH)
                          clear bH f1 f2
                          have HE : Hid (hitB (nn : Int) ds hq1 = (false)) := by show _ = _; unfold hitB; rw [decide_eq_false (show ¬ (nn : Int) < atOf hq1 + manyOf hq1 by have := HNO.out; omega)]; simp
                          cases gb with
                          | true =>
                            go_wp2
                            go_roundw
                            case rel => exact ⟨q + 1, (true || (false)), HLJ.out, by first | exact round_same HWJ | go_num, rfl, (HST.out (false)).2 (by rw [HE.out]; simp), HB9.out⟩
                            case measure => first | exact round_less HWJ HLJ.out | (have h := HLJ.out; simp [intOf]; omega)
                          | false =>
                            go_wp2
                            go_roundw
                            case rel => exact ⟨q + 1, (false || (false)), HLJ.out, by first | exact round_same HWJ | go_num, rfl, (HST.out (false)).2 (by rw [HE.out]; simp), HB9.out⟩
                            case measure => first | exact round_less HWJ HLJ.out | (have h := HLJ.out; simp [intOf]; omega)
                      · have HNO : Hid (¬ atOf hq1 ≤ (nn : Int)) := of_decide_eq_false f1
                        go_upto_region 22 with fail
                        have HS : Hid (∀ w', Below wk.heap.size wk w' → (Below wk.heap.size wk w' ∧ (∀ p, w'.cell? ⟨gk, p, none⟩ = (#[.int .u8 ((kiOf hq1).toNat : Int), .int .i64 (atOf hq1), .int .i64 (manyOf hq1), .slice Ah (datOf hq1).length ch] : Array Value).toList[p]?))) := fun w' b => ⟨b, (K2.next b).cell⟩
                        refine wp_region_held_drew (S := fun w' => Below wk.heap.size wk w' ∧ (∀ p, w'.cell? ⟨gk, p, none⟩ = (#[.int .u8 ((kiOf hq1).toNat : Int), .int .i64 (atOf hq1), .int .i64 (manyOf hq1), .slice Ah (datOf hq1).length ch] : Array Value).toList[p]?)) (by kernel_rfl) (HS.out _ (Ext.drew (Below.refl _ _))) (fun hS => ?_)
                        refine wpAnyH_take (i := 0) (oi := _) (v := ?_) rfl (by kernel_rfl) (by kernel_rfl) (by kernel_rfl) (fun _ _ _ h => h) (Or.inl ⟨by rfl, ?_⟩) hS ?_
                        rotate_left
                        · (intro w hSw; (try dsimp only at hSw); go_simp; (try with_reducible rfl))
                        rotate_left
                        simp only [Act.put, List.getElem_toArray, List.getElem_cons_zero, List.getElem_cons_succ, List.setIfInBounds_toArray, List.set_cons_zero, List.set_cons_succ]
                        refine wpAnyH_take (i := 1) (oi := _) (v := ?_) rfl (by kernel_rfl) (by kernel_rfl) (by kernel_rfl) (fun _ _ _ h => h) (Or.inl ⟨by rfl, ?_⟩) hS ?_
                        rotate_left
                        · (intro w hSw; (try dsimp only at hSw); go_simp; (try with_reducible rfl))
                        rotate_left
                        simp only [Act.put, List.getElem_toArray, List.getElem_cons_zero, List.getElem_cons_succ, List.setIfInBounds_toArray, List.set_cons_zero, List.set_cons_succ]
                        refine wpAnyH_take (i := 2) (oi := _) (v := ?_) rfl (by kernel_rfl) (by kernel_rfl) (by kernel_rfl) (fun _ _ _ h => h) (Or.inl ⟨by rfl, ?_⟩) hS ?_
                        rotate_left
                        · (intro w hSw; (try dsimp only at hSw); go_simp; (try with_reducible rfl))
                        rotate_left
                        simp only [Act.put, List.getElem_toArray, List.getElem_cons_zero, List.getElem_cons_succ, List.setIfInBounds_toArray, List.set_cons_zero, List.set_cons_succ]
                        refine wpAnyH_take (i := 3) (oi := _) (v := ?_) rfl (by kernel_rfl) (by kernel_rfl) (by kernel_rfl) (fun _ _ _ h => h) (Or.inr ⟨by rfl, ?_⟩) hS ?_
                        rotate_left
                        · rfl
                        rotate_left
                        simp only [Act.put, List.getElem_toArray, List.getElem_cons_zero, List.getElem_cons_succ, List.setIfInBounds_toArray, List.set_cons_zero, List.set_cons_succ]
                        refine wpAnyH_take (i := 4) (oi := _) (v := ?_) rfl (by kernel_rfl) (by kernel_rfl) (by kernel_rfl) (fun _ _ _ h => h) (Or.inr ⟨by rfl, ?_⟩) hS ?_
                        rotate_left
                        · rfl
                        rotate_left
                        simp only [Act.put, List.getElem_toArray, List.getElem_cons_zero, List.getElem_cons_succ, List.setIfInBounds_toArray, List.set_cons_zero, List.set_cons_succ]
                        refine wpAnyH_take (i := 5) (oi := _) (v := ?_) rfl (by kernel_rfl) (by kernel_rfl) (by kernel_rfl) (fun _ _ _ h => h) (Or.inr ⟨by rfl, ?_⟩) hS ?_
                        rotate_left
                        · rfl
                        rotate_left
                        simp only [Act.put, List.getElem_toArray, List.getElem_cons_zero, List.getElem_cons_succ, List.setIfInBounds_toArray, List.set_cons_zero, List.set_cons_succ]
                        refine wpAnyH_take (i := 6) (oi := _) (v := ?_) rfl (by kernel_rfl) (by kernel_rfl) (by kernel_rfl) (fun _ _ _ h => h) (Or.inr ⟨by rfl, ?_⟩) hS ?_
                        rotate_left
                        · rfl
                        rotate_left
                        simp only [Act.put, List.getElem_toArray, List.getElem_cons_zero, List.getElem_cons_succ, List.setIfInBounds_toArray, List.set_cons_zero, List.set_cons_succ]
                        refine wpAnyH_take (i := 7) (oi := _) (v := ?_) rfl (by kernel_rfl) (by kernel_rfl) (by kernel_rfl) (fun _ _ _ h => h) (Or.inl ⟨by rfl, ?_⟩) hS ?_
                        rotate_left
                        · (intro w hSw; (try dsimp only at hSw); go_simp; (try with_reducible rfl))
                        rotate_left
                        simp only [Act.put, List.getElem_toArray, List.getElem_cons_zero, List.getElem_cons_succ, List.setIfInBounds_toArray, List.set_cons_zero, List.set_cons_succ]
                        refine wpAnyH_take (i := 8) (oi := _) (v := ?_) rfl (by kernel_rfl) (by kernel_rfl) (by kernel_rfl) (fun _ _ _ h => h) (Or.inl ⟨by rfl, ?_⟩) hS ?_
                        rotate_left
                        · (intro w hSw; (try dsimp only at hSw); go_simp; (try with_reducible rfl))
                        rotate_left
                        simp only [Act.put, List.getElem_toArray, List.getElem_cons_zero, List.getElem_cons_succ, List.setIfInBounds_toArray, List.set_cons_zero, List.set_cons_succ]
                        refine wpAnyH_take (i := 9) (oi := _) (v := ?_) rfl (by kernel_rfl) (by kernel_rfl) (by kernel_rfl) (fun _ _ _ h => h) (Or.inr ⟨by rfl, ?_⟩) hS ?_
                        rotate_left
                        · rfl
                        rotate_left
                        simp only [Act.put, List.getElem_toArray, List.getElem_cons_zero, List.getElem_cons_succ, List.setIfInBounds_toArray, List.set_cons_zero, List.set_cons_succ]
                        refine wpAnyH_take (i := 10) (oi := _) (v := ?_) rfl (by kernel_rfl) (by kernel_rfl) (by kernel_rfl) (fun _ _ _ h => h) (Or.inr ⟨by rfl, ?_⟩) hS ?_
                        rotate_left
                        · rfl
                        rotate_left
                        simp only [Act.put, List.getElem_toArray, List.getElem_cons_zero, List.getElem_cons_succ, List.setIfInBounds_toArray, List.set_cons_zero, List.set_cons_succ]
                        refine wpAnyH_take (i := 11) (oi := _) (v := ?_) rfl (by kernel_rfl) (by kernel_rfl) (by kernel_rfl) (fun _ _ _ h => h) (Or.inr ⟨by rfl, ?_⟩) hS ?_
                        rotate_left
                        · rfl
                        rotate_left
                        simp only [Act.put, List.getElem_toArray, List.getElem_cons_zero, List.getElem_cons_succ, List.setIfInBounds_toArray, List.set_cons_zero, List.set_cons_succ]
                        refine wpAnyH_take (i := 12) (oi := _) (v := ?_) rfl (by kernel_rfl) (by kernel_rfl) (by kernel_rfl) (fun _ _ _ h => h) (Or.inr ⟨by rfl, ?_⟩) hS ?_
                        rotate_left
                        · rfl
                        rotate_left
                        simp only [Act.put, List.getElem_toArray, List.getElem_cons_zero, List.getElem_cons_succ, List.setIfInBounds_toArray, List.set_cons_zero, List.set_cons_succ]
                        refine wpAnyH_take (i := 13) (oi := _) (v := ?_) rfl (by kernel_rfl) (by kernel_rfl) (by kernel_rfl) (fun _ _ _ h => h) (Or.inr ⟨by rfl, ?_⟩) hS ?_
                        rotate_left
                        · rfl
                        rotate_left
                        simp only [Act.put, List.getElem_toArray, List.getElem_cons_zero, List.getElem_cons_succ, List.setIfInBounds_toArray, List.set_cons_zero, List.set_cons_succ]
                        refine wpAnyH_take (i := 14) (oi := _) (v := ?_) rfl (by kernel_rfl) (by kernel_rfl) (by kernel_rfl) (fun _ _ _ h => h) (Or.inr ⟨by rfl, ?_⟩) hS ?_
                        rotate_left
                        · rfl
                        rotate_left
                        simp only [Act.put, List.getElem_toArray, List.getElem_cons_zero, List.getElem_cons_succ, List.setIfInBounds_toArray, List.set_cons_zero, List.set_cons_succ]
                        refine wpAnyH_take (i := 15) (oi := _) (v := ?_) rfl (by kernel_rfl) (by kernel_rfl) (by kernel_rfl) (fun _ _ _ h => h) (Or.inr ⟨by rfl, ?_⟩) hS ?_
                        rotate_left
                        · rfl
                        rotate_left
                        simp only [Act.put, List.getElem_toArray, List.getElem_cons_zero, List.getElem_cons_succ, List.setIfInBounds_toArray, List.set_cons_zero, List.set_cons_succ]
                        refine wpAnyH_take (i := 16) (oi := _) (v := ?_) rfl (by kernel_rfl) (by kernel_rfl) (by kernel_rfl) (fun _ _ _ h => h) (Or.inr ⟨by rfl, ?_⟩) hS ?_
                        rotate_left
                        · rfl
                        rotate_left
                        simp only [Act.put, List.getElem_toArray, List.getElem_cons_zero, List.getElem_cons_succ, List.setIfInBounds_toArray, List.set_cons_zero, List.set_cons_succ]
                        refine wpAnyH_take (i := 17) (oi := _) (v := ?_) rfl (by kernel_rfl) (by kernel_rfl) (by kernel_rfl) (fun _ _ _ h => h) (Or.inr ⟨by rfl, ?_⟩) hS ?_
                        rotate_left
                        · rfl
                        rotate_left
                        simp only [Act.put, List.getElem_toArray, List.getElem_cons_zero, List.getElem_cons_succ, List.setIfInBounds_toArray, List.set_cons_zero, List.set_cons_succ]
                        refine wpAnyH_take (i := 18) (oi := _) (v := ?_) rfl (by kernel_rfl) (by kernel_rfl) (by kernel_rfl) (fun _ _ _ h => h) (Or.inr ⟨by rfl, ?_⟩) hS ?_
                        rotate_left
                        · rfl
                        rotate_left
                        simp only [Act.put, List.getElem_toArray, List.getElem_cons_zero, List.getElem_cons_succ, List.setIfInBounds_toArray, List.set_cons_zero, List.set_cons_succ]
                        refine wpAnyH_take (i := 19) (oi := _) (v := ?_) rfl (by kernel_rfl) (by kernel_rfl) (by kernel_rfl) (fun _ _ _ h => h) (Or.inr ⟨by rfl, ?_⟩) hS ?_
                        rotate_left
                        · rfl
                        rotate_left
                        simp only [Act.put, List.getElem_toArray, List.getElem_cons_zero, List.getElem_cons_succ, List.setIfInBounds_toArray, List.set_cons_zero, List.set_cons_succ]
                        refine wpAnyH_take (i := 20) (oi := _) (v := ?_) rfl (by kernel_rfl) (by kernel_rfl) (by kernel_rfl) (fun _ _ _ h => h) (Or.inr ⟨by rfl, ?_⟩) hS ?_
                        rotate_left
                        · rfl
                        rotate_left
                        simp only [Act.put, List.getElem_toArray, List.getElem_cons_zero, List.getElem_cons_succ, List.setIfInBounds_toArray, List.set_cons_zero, List.set_cons_succ]
                        refine wpAnyH_take (i := 21) (oi := _) (v := ?_) rfl (by kernel_rfl) (by kernel_rfl) (by kernel_rfl) (fun _ _ _ h => h) (Or.inl ⟨by rfl, ?_⟩) hS ?_
                        rotate_left
                        · (intro w hSw; (try dsimp only at hSw); go_simp; (try with_reducible rfl))
                        rotate_left
                        simp only [Act.put, List.getElem_toArray, List.getElem_cons_zero, List.getElem_cons_succ, List.setIfInBounds_toArray, List.set_cons_zero, List.set_cons_succ]
                        refine wpAnyH_take (i := 22) (oi := _) (v := ?_) rfl (by kernel_rfl) (by kernel_rfl) (by kernel_rfl) (fun _ _ _ h => h) (Or.inl ⟨by rfl, ?_⟩) hS ?_
                        rotate_left
                        · (intro w hSw; (try dsimp only at hSw); go_simp; (try with_reducible rfl))
                        rotate_left
                        simp only [Act.put, List.getElem_toArray, List.getElem_cons_zero, List.getElem_cons_succ, List.setIfInBounds_toArray, List.set_cons_zero, List.set_cons_succ]
                        refine wpAnyH_done (by kernel_rfl) ?_ _
                        have bH := hS.1
                        clear hS HS
                        have HB9 := Lib.hid (Ext.trans HB8.out bH)
                        clear bH f1
                        have HE : Hid (hitB (nn : Int) ds hq1 = (false)) := by show _ = _; unfold hitB; rw [decide_eq_false (show ¬ atOf hq1 ≤ (nn : Int) by have := HNO.out; omega)]; simp
                        cases gb with
                        | true =>
                          go_wp2
                          go_roundw
                          case rel => exact ⟨q + 1, (true || (false)), HLJ.out, by first | exact round_same HWJ | go_num, rfl, (HST.out (false)).2 (by rw [HE.out]; simp), HB9.out⟩
                          case measure => first | exact round_less HWJ HLJ.out | (have h := HLJ.out; simp [intOf]; omega)
                        | false =>
                          go_wp2
                          go_roundw
                          case rel => exact ⟨q + 1, (false || (false)), HLJ.out, by first | exact round_same HWJ | go_num, rfl, (HST.out (false)).2 (by rw [HE.out]; simp), HB9.out⟩
                          case measure => first | exact round_less HWJ HLJ.out | (have h := HLJ.out; simp [intOf]; omega)
                    · rcases Bool.eq_false_or_eq_true (((kiOf hq1).toNat : Int) == 5) with e5 | e5
                      · have HKW : Hid (kWrites ((kiOf hq1).toNat : Int) = true ∧ kBytes ((kiOf hq1).toNat : Int) = false) := by
                          have h1 : ((kiOf hq1).toNat : Int) = 5 := by simpa using e5
                          rw [h1]
                          exact ⟨by decide, by decide⟩
                        rcases Bool.eq_false_or_eq_true (decide (atOf hq1 ≤ (nn : Int))) with f1 | f1
                        · rcases Bool.eq_false_or_eq_true (decide ((nn : Int) - atOf hq1 < manyOf hq1)) with f2 | f2
                          · have HIN := Lib.hid (And.intro (of_decide_eq_true f1) (of_decide_eq_true f2))
                            go_upto_region 24 with fail
                            have HS : Hid (∀ w', Below wk.heap.size wk w' → (Below wk.heap.size wk w' ∧ (∀ p, w'.cell? ⟨gk, p, none⟩ = (#[.int .u8 ((kiOf hq1).toNat : Int), .int .i64 (atOf hq1), .int .i64 (manyOf hq1), .slice Ah (datOf hq1).length ch] : Array Value).toList[p]?) ∧ Bs w' D ds.length ds)) := fun w' b => ⟨b, (K2.next b).cell, (HD.out.bytes_bs.below (Ext.trans HT6.out HB8.out)).below b⟩
                            refine wp_region_held_drew (S := fun w' => Below wk.heap.size wk w' ∧ (∀ p, w'.cell? ⟨gk, p, none⟩ = (#[.int .u8 ((kiOf hq1).toNat : Int), .int .i64 (atOf hq1), .int .i64 (manyOf hq1), .slice Ah (datOf hq1).length ch] : Array Value).toList[p]?) ∧ Bs w' D ds.length ds) (by kernel_rfl) (HS.out _ (Ext.drew (Below.refl _ _))) (fun hS => ?_)
                            refine wpAnyH_take (i := 0) (oi := _) (v := ?_) rfl (by kernel_rfl) (by kernel_rfl) (by kernel_rfl) (fun _ _ _ h => h) (Or.inl ⟨by rfl, ?_⟩) hS ?_
                            rotate_left
                            · (intro w hSw; (try dsimp only at hSw); go_simp; (try with_reducible rfl))
                            rotate_left
                            simp only [Act.put, List.getElem_toArray, List.getElem_cons_zero, List.getElem_cons_succ, List.setIfInBounds_toArray, List.set_cons_zero, List.set_cons_succ]
                            refine wpAnyH_take (i := 1) (oi := _) (v := ?_) rfl (by kernel_rfl) (by kernel_rfl) (by kernel_rfl) (fun _ _ _ h => h) (Or.inl ⟨by rfl, ?_⟩) hS ?_
                            rotate_left
                            · (intro w hSw; (try dsimp only at hSw); go_simp; (try with_reducible rfl))
                            rotate_left
                            simp only [Act.put, List.getElem_toArray, List.getElem_cons_zero, List.getElem_cons_succ, List.setIfInBounds_toArray, List.set_cons_zero, List.set_cons_succ]
                            refine wpAnyH_take (i := 2) (oi := _) (v := ?_) rfl (by kernel_rfl) (by kernel_rfl) (by kernel_rfl) (fun _ _ _ h => h) (Or.inl ⟨by rfl, ?_⟩) hS ?_
                            rotate_left
                            · (intro w hSw; (try dsimp only at hSw); go_simp; (try with_reducible rfl))
                            rotate_left
                            simp only [Act.put, List.getElem_toArray, List.getElem_cons_zero, List.getElem_cons_succ, List.setIfInBounds_toArray, List.set_cons_zero, List.set_cons_succ]
                            refine wpAnyH_take (i := 3) (oi := _) (v := ?_) rfl (by kernel_rfl) (by kernel_rfl) (by kernel_rfl) (fun _ _ _ h => h) (Or.inl ⟨by rfl, ?_⟩) hS ?_
                            rotate_left
                            · (intro w hSw; (try dsimp only at hSw); go_simp; (try with_reducible rfl))
                            rotate_left
                            simp only [Act.put, List.getElem_toArray, List.getElem_cons_zero, List.getElem_cons_succ, List.setIfInBounds_toArray, List.set_cons_zero, List.set_cons_succ]
                            refine wpAnyH_take (i := 4) (oi := _) (v := ?_) rfl (by kernel_rfl) (by kernel_rfl) (by kernel_rfl) (fun _ _ _ h => h) (Or.inl ⟨by rfl, ?_⟩) hS ?_
                            rotate_left
                            · (intro w hSw; (try dsimp only at hSw); go_simp; (try with_reducible rfl))
                            rotate_left
                            simp only [Act.put, List.getElem_toArray, List.getElem_cons_zero, List.getElem_cons_succ, List.setIfInBounds_toArray, List.set_cons_zero, List.set_cons_succ]
                            refine wpAnyH_take (i := 5) (oi := _) (v := ?_) rfl (by kernel_rfl) (by kernel_rfl) (by kernel_rfl) (fun _ _ _ h => h) (Or.inl ⟨by rfl, ?_⟩) hS ?_
                            rotate_left
                            · (intro w hSw; (try dsimp only at hSw); go_simp; (try with_reducible rfl))
                            rotate_left
                            simp only [Act.put, List.getElem_toArray, List.getElem_cons_zero, List.getElem_cons_succ, List.setIfInBounds_toArray, List.set_cons_zero, List.set_cons_succ]
                            refine wpAnyH_take (i := 6) (oi := _) (v := ?_) rfl (by kernel_rfl) (by kernel_rfl) (by kernel_rfl) (fun _ _ _ h => h) (Or.inl ⟨by rfl, ?_⟩) hS ?_
                            rotate_left
                            · (intro w hSw; (try dsimp only at hSw); go_simp; (try with_reducible rfl))
                            rotate_left
                            simp only [Act.put, List.getElem_toArray, List.getElem_cons_zero, List.getElem_cons_succ, List.setIfInBounds_toArray, List.set_cons_zero, List.set_cons_succ]
                            refine wpAnyH_take (i := 7) (oi := _) (v := ?_) rfl (by kernel_rfl) (by kernel_rfl) (by kernel_rfl) (fun _ _ _ h => h) (Or.inl ⟨by rfl, ?_⟩) hS ?_
                            rotate_left
                            · (intro w hSw; (try dsimp only at hSw); go_simp; (try with_reducible rfl))
                            rotate_left
                            simp only [Act.put, List.getElem_toArray, List.getElem_cons_zero, List.getElem_cons_succ, List.setIfInBounds_toArray, List.set_cons_zero, List.set_cons_succ]
                            refine wpAnyH_take (i := 8) (oi := _) (v := ?_) rfl (by kernel_rfl) (by kernel_rfl) (by kernel_rfl) (fun _ _ _ h => h) (Or.inl ⟨by rfl, ?_⟩) hS ?_
                            rotate_left
                            · (intro w hSw; (try dsimp only at hSw); go_simp; (try with_reducible rfl))
                            rotate_left
                            simp only [Act.put, List.getElem_toArray, List.getElem_cons_zero, List.getElem_cons_succ, List.setIfInBounds_toArray, List.set_cons_zero, List.set_cons_succ]
                            refine wpAnyH_take (i := 9) (oi := _) (v := ?_) rfl (by kernel_rfl) (by kernel_rfl) (by kernel_rfl) (fun _ _ _ h => h) (Or.inl ⟨by rfl, ?_⟩) hS ?_
                            rotate_left
                            · (intro w hSw; (try dsimp only at hSw); go_simp; (try with_reducible rfl))
                            rotate_left
                            simp only [Act.put, List.getElem_toArray, List.getElem_cons_zero, List.getElem_cons_succ, List.setIfInBounds_toArray, List.set_cons_zero, List.set_cons_succ]
                            refine wpAnyH_take (i := 10) (oi := _) (v := ?_) rfl (by kernel_rfl) (by kernel_rfl) (by kernel_rfl) (fun _ _ _ h => h) (Or.inl ⟨by rfl, ?_⟩) hS ?_
                            rotate_left
                            · (intro w hSw; have sq := run_string_bs (P := Try.prog) dc 29 9 5 Try.underlying29 Try.underlying5 Try.underlying9 hSw.2.2; (try dsimp only at hSw); go_simp; (try with_reducible rfl))
                            rotate_left
                            try simp only [Act.put, List.getElem_toArray, List.getElem_cons_zero, List.getElem_cons_succ, List.setIfInBounds_toArray, List.set_cons_zero, List.set_cons_succ]
                            refine wpAnyH_ready (rs := [11]) (by kernel_rfl) (by simp) ?_
                            refine AllReadyH.cons rfl (fun K hK => ?_) AllReadyH.nil
                            rw [if_pos (by rfl)]
                            go_simp
                            have h0 := full_any 0 wk.drew
                            have e0 : (((0 : UInt8).toNat : Nat) : Int) = 0 := rfl
                            rw [e0] at h0
                            refine h0.mono ?_
                            rintro e wf ⟨⟨gf, rfl, rf⟩, kf⟩
                            have hSf := HS.out _ (Ext.trans hS.1 kf)
                            refine hK.out _ _ hSf (fun hS' => ?_)
                            have HBF := Lib.hid rf.bytes_bs
                            clear hK K hS hSf rf kf h0 e0
                            have hS := hS'
                            clear hS'
                            try simp only [Act.put, List.getElem_toArray, List.getElem_cons_zero, List.getElem_cons_succ, List.setIfInBounds_toArray, List.set_cons_zero, List.set_cons_succ]
                            refine wpAnyH_ready (rs := [12]) (by kernel_rfl) (by simp) ?_
                            refine AllReadyH.cons rfl (fun K hK => ?_) AllReadyH.nil
                            rw [if_pos (by rfl)]
                            have sq := run_string_bs (P := Try.prog) 128 29 9 5 Try.underlying29 Try.underlying5 Try.underlying9 HBF.out
                            go_simp
                            refine hK.out _ _ hS (fun hS' => ?_)
                            clear hK K hS sq
                            have hS := hS'
                            clear hS'
                            try simp only [Act.put, List.getElem_toArray, List.getElem_cons_zero, List.getElem_cons_succ, List.setIfInBounds_toArray, List.set_cons_zero, List.set_cons_succ]
                            refine wpAnyH_take (i := 13) (oi := _) (v := ?_) rfl (by kernel_rfl) (by kernel_rfl) (by kernel_rfl) (fun _ _ _ h => h) (Or.inl ⟨by rfl, ?_⟩) hS ?_
                            rotate_left
                            · (intro w hSw; (try dsimp only at hSw); go_simp; (try with_reducible rfl))
                            rotate_left
                            simp only [Act.put, List.getElem_toArray, List.getElem_cons_zero, List.getElem_cons_succ, List.setIfInBounds_toArray, List.set_cons_zero, List.set_cons_succ]
                            refine wpAnyH_take (i := 14) (oi := _) (v := ?_) rfl (by kernel_rfl) (by kernel_rfl) (by kernel_rfl) (fun _ _ _ h => h) (Or.inl ⟨by rfl, ?_⟩) hS ?_
                            rotate_left
                            · (intro w hSw; (try dsimp only at hSw); go_simp; (try with_reducible rfl))
                            rotate_left
                            simp only [Act.put, List.getElem_toArray, List.getElem_cons_zero, List.getElem_cons_succ, List.setIfInBounds_toArray, List.set_cons_zero, List.set_cons_succ]
                            refine wpAnyH_take (i := 15) (oi := _) (v := ?_) rfl (by kernel_rfl) (by kernel_rfl) (by kernel_rfl) (fun _ _ _ h => h) (Or.inl ⟨by rfl, ?_⟩) hS ?_
                            rotate_left
                            · (intro w hSw; (try dsimp only at hSw); go_simp; (try with_reducible rfl))
                            rotate_left
                            simp only [Act.put, List.getElem_toArray, List.getElem_cons_zero, List.getElem_cons_succ, List.setIfInBounds_toArray, List.set_cons_zero, List.set_cons_succ]
                            refine wpAnyH_done (by kernel_rfl) ?_ _
                            have bH := hS.1
                            clear hS HS
                            have HB9 := Lib.hid (Ext.trans HB8.out bH)
                            clear bH f1 f2
                            have HE : Hid (hitB (nn : Int) ds hq1 = (ds == fullL 0)) := by have h1 := HIN.out; show _ = _; unfold hitB blk; rw [if_neg (by rw [HKW.out.2]; decide), HKW.out.1, decide_eq_true (show atOf hq1 ≤ (nn : Int) from h1.1), decide_eq_true (show (nn : Int) < atOf hq1 + manyOf hq1 by omega), Bool.true_and, Bool.true_and, Bool.true_and]; exact BEq.comm
                            cases gb with
                            | true =>
                              go_wp2
                              go_roundw
                              case rel => exact ⟨q + 1, (true || (ds == fullL 0)), HLJ.out, by first | exact round_same HWJ | go_num, rfl, (HST.out (ds == fullL 0)).2 (by rw [HE.out]; simp), HB9.out⟩
                              case measure => first | exact round_less HWJ HLJ.out | (have h := HLJ.out; simp [intOf]; omega)
                            | false =>
                              go_wp2
                              go_roundw
                              case rel => exact ⟨q + 1, (false || (ds == fullL 0)), HLJ.out, by first | exact round_same HWJ | go_num, rfl, (HST.out (ds == fullL 0)).2 (by rw [HE.out]; simp), HB9.out⟩
                              case measure => first | exact round_less HWJ HLJ.out | (have h := HLJ.out; simp [intOf]; omega)
                          · have HNO : Hid (¬ (nn : Int) - atOf hq1 < manyOf hq1) := of_decide_eq_false f2
                            go_upto_region 24 with fail
                            have HS : Hid (∀ w', Below wk.heap.size wk w' → (Below wk.heap.size wk w' ∧ (∀ p, w'.cell? ⟨gk, p, none⟩ = (#[.int .u8 ((kiOf hq1).toNat : Int), .int .i64 (atOf hq1), .int .i64 (manyOf hq1), .slice Ah (datOf hq1).length ch] : Array Value).toList[p]?))) := fun w' b => ⟨b, (K2.next b).cell⟩
                            refine wp_region_held_drew (S := fun w' => Below wk.heap.size wk w' ∧ (∀ p, w'.cell? ⟨gk, p, none⟩ = (#[.int .u8 ((kiOf hq1).toNat : Int), .int .i64 (atOf hq1), .int .i64 (manyOf hq1), .slice Ah (datOf hq1).length ch] : Array Value).toList[p]?)) (by kernel_rfl) (HS.out _ (Ext.drew (Below.refl _ _))) (fun hS => ?_)
                            refine wpAnyH_take (i := 0) (oi := _) (v := ?_) rfl (by kernel_rfl) (by kernel_rfl) (by kernel_rfl) (fun _ _ _ h => h) (Or.inl ⟨by rfl, ?_⟩) hS ?_
                            rotate_left
                            · (intro w hSw; (try dsimp only at hSw); go_simp; (try with_reducible rfl))
                            rotate_left
                            simp only [Act.put, List.getElem_toArray, List.getElem_cons_zero, List.getElem_cons_succ, List.setIfInBounds_toArray, List.set_cons_zero, List.set_cons_succ]
                            refine wpAnyH_take (i := 1) (oi := _) (v := ?_) rfl (by kernel_rfl) (by kernel_rfl) (by kernel_rfl) (fun _ _ _ h => h) (Or.inl ⟨by rfl, ?_⟩) hS ?_
                            rotate_left
                            · (intro w hSw; (try dsimp only at hSw); go_simp; (try with_reducible rfl))
                            rotate_left
                            simp only [Act.put, List.getElem_toArray, List.getElem_cons_zero, List.getElem_cons_succ, List.setIfInBounds_toArray, List.set_cons_zero, List.set_cons_succ]
                            refine wpAnyH_take (i := 2) (oi := _) (v := ?_) rfl (by kernel_rfl) (by kernel_rfl) (by kernel_rfl) (fun _ _ _ h => h) (Or.inl ⟨by rfl, ?_⟩) hS ?_
                            rotate_left
                            · (intro w hSw; (try dsimp only at hSw); go_simp; (try with_reducible rfl))
                            rotate_left
                            simp only [Act.put, List.getElem_toArray, List.getElem_cons_zero, List.getElem_cons_succ, List.setIfInBounds_toArray, List.set_cons_zero, List.set_cons_succ]
                            refine wpAnyH_take (i := 3) (oi := _) (v := ?_) rfl (by kernel_rfl) (by kernel_rfl) (by kernel_rfl) (fun _ _ _ h => h) (Or.inl ⟨by rfl, ?_⟩) hS ?_
                            rotate_left
                            · (intro w hSw; (try dsimp only at hSw); go_simp; (try with_reducible rfl))
                            rotate_left
                            simp only [Act.put, List.getElem_toArray, List.getElem_cons_zero, List.getElem_cons_succ, List.setIfInBounds_toArray, List.set_cons_zero, List.set_cons_succ]
                            refine wpAnyH_take (i := 4) (oi := _) (v := ?_) rfl (by kernel_rfl) (by kernel_rfl) (by kernel_rfl) (fun _ _ _ h => h) (Or.inl ⟨by rfl, ?_⟩) hS ?_
                            rotate_left
                            · (intro w hSw; (try dsimp only at hSw); go_simp; (try with_reducible rfl))
                            rotate_left
                            simp only [Act.put, List.getElem_toArray, List.getElem_cons_zero, List.getElem_cons_succ, List.setIfInBounds_toArray, List.set_cons_zero, List.set_cons_succ]
                            refine wpAnyH_take (i := 5) (oi := _) (v := ?_) rfl (by kernel_rfl) (by kernel_rfl) (by kernel_rfl) (fun _ _ _ h => h) (Or.inl ⟨by rfl, ?_⟩) hS ?_
                            rotate_left
                            · (intro w hSw; (try dsimp only at hSw); go_simp; (try with_reducible rfl))
                            rotate_left
                            simp only [Act.put, List.getElem_toArray, List.getElem_cons_zero, List.getElem_cons_succ, List.setIfInBounds_toArray, List.set_cons_zero, List.set_cons_succ]
                            refine wpAnyH_take (i := 6) (oi := _) (v := ?_) rfl (by kernel_rfl) (by kernel_rfl) (by kernel_rfl) (fun _ _ _ h => h) (Or.inl ⟨by rfl, ?_⟩) hS ?_
                            rotate_left
                            · (intro w hSw; (try dsimp only at hSw); go_simp; (try with_reducible rfl))
                            rotate_left
                            simp only [Act.put, List.getElem_toArray, List.getElem_cons_zero, List.getElem_cons_succ, List.setIfInBounds_toArray, List.set_cons_zero, List.set_cons_succ]
                            refine wpAnyH_take (i := 7) (oi := _) (v := ?_) rfl (by kernel_rfl) (by kernel_rfl) (by kernel_rfl) (fun _ _ _ h => h) (Or.inl ⟨by rfl, ?_⟩) hS ?_
                            rotate_left
                            · (intro w hSw; (try dsimp only at hSw); go_simp; (try with_reducible rfl))
                            rotate_left
                            simp only [Act.put, List.getElem_toArray, List.getElem_cons_zero, List.getElem_cons_succ, List.setIfInBounds_toArray, List.set_cons_zero, List.set_cons_succ]
                            refine wpAnyH_take (i := 8) (oi := _) (v := ?_) rfl (by kernel_rfl) (by kernel_rfl) (by kernel_rfl) (fun _ _ _ h => h) (Or.inl ⟨by rfl, ?_⟩) hS ?_
                            rotate_left
                            · (intro w hSw; (try dsimp only at hSw); go_simp; (try with_reducible rfl))
                            rotate_left
                            simp only [Act.put, List.getElem_toArray, List.getElem_cons_zero, List.getElem_cons_succ, List.setIfInBounds_toArray, List.set_cons_zero, List.set_cons_succ]
                            refine wpAnyH_take (i := 9) (oi := _) (v := ?_) rfl (by kernel_rfl) (by kernel_rfl) (by kernel_rfl) (fun _ _ _ h => h) (Or.inr ⟨by rfl, ?_⟩) hS ?_
                            rotate_left
                            · rfl
                            rotate_left
                            simp only [Act.put, List.getElem_toArray, List.getElem_cons_zero, List.getElem_cons_succ, List.setIfInBounds_toArray, List.set_cons_zero, List.set_cons_succ]
                            refine wpAnyH_take (i := 10) (oi := _) (v := ?_) rfl (by kernel_rfl) (by kernel_rfl) (by kernel_rfl) (fun _ _ _ h => h) (Or.inr ⟨by rfl, ?_⟩) hS ?_
                            rotate_left
                            · rfl
                            rotate_left
                            simp only [Act.put, List.getElem_toArray, List.getElem_cons_zero, List.getElem_cons_succ, List.setIfInBounds_toArray, List.set_cons_zero, List.set_cons_succ]
                            refine wpAnyH_take (i := 11) (oi := _) (v := ?_) rfl (by kernel_rfl) (by kernel_rfl) (by kernel_rfl) (fun _ _ _ h => h) (Or.inr ⟨by rfl, ?_⟩) hS ?_
                            rotate_left
                            · rfl
                            rotate_left
                            simp only [Act.put, List.getElem_toArray, List.getElem_cons_zero, List.getElem_cons_succ, List.setIfInBounds_toArray, List.set_cons_zero, List.set_cons_succ]
                            refine wpAnyH_take (i := 12) (oi := _) (v := ?_) rfl (by kernel_rfl) (by kernel_rfl) (by kernel_rfl) (fun _ _ _ h => h) (Or.inr ⟨by rfl, ?_⟩) hS ?_
                            rotate_left
                            · rfl
                            rotate_left
                            simp only [Act.put, List.getElem_toArray, List.getElem_cons_zero, List.getElem_cons_succ, List.setIfInBounds_toArray, List.set_cons_zero, List.set_cons_succ]
                            refine wpAnyH_take (i := 13) (oi := _) (v := ?_) rfl (by kernel_rfl) (by kernel_rfl) (by kernel_rfl) (fun _ _ _ h => h) (Or.inr ⟨by rfl, ?_⟩) hS ?_
                            rotate_left
                            · rfl
                            rotate_left
                            simp only [Act.put, List.getElem_toArray, List.getElem_cons_zero, List.getElem_cons_succ, List.setIfInBounds_toArray, List.set_cons_zero, List.set_cons_succ]
                            refine wpAnyH_take (i := 14) (oi := _) (v := ?_) rfl (by kernel_rfl) (by kernel_rfl) (by kernel_rfl) (fun _ _ _ h => h) (Or.inl ⟨by rfl, ?_⟩) hS ?_
                            rotate_left
                            · (intro w hSw; (try dsimp only at hSw); go_simp; (try with_reducible rfl))
                            rotate_left
                            simp only [Act.put, List.getElem_toArray, List.getElem_cons_zero, List.getElem_cons_succ, List.setIfInBounds_toArray, List.set_cons_zero, List.set_cons_succ]
                            refine wpAnyH_take (i := 15) (oi := _) (v := ?_) rfl (by kernel_rfl) (by kernel_rfl) (by kernel_rfl) (fun _ _ _ h => h) (Or.inl ⟨by rfl, ?_⟩) hS ?_
                            rotate_left
                            · (intro w hSw; (try dsimp only at hSw); go_simp; (try with_reducible rfl))
                            rotate_left
                            simp only [Act.put, List.getElem_toArray, List.getElem_cons_zero, List.getElem_cons_succ, List.setIfInBounds_toArray, List.set_cons_zero, List.set_cons_succ]
                            refine wpAnyH_done (by kernel_rfl) ?_ _
                            have bH := hS.1
                            clear hS HS
                            have HB9 := Lib.hid (Ext.trans HB8.out bH)
                            clear bH f1 f2
                            have HE : Hid (hitB (nn : Int) ds hq1 = (false)) := by show _ = _; unfold hitB; rw [decide_eq_false (show ¬ (nn : Int) < atOf hq1 + manyOf hq1 by have := HNO.out; omega)]; simp
                            cases gb with
                            | true =>
                              go_wp2
                              go_roundw
                              case rel => exact ⟨q + 1, (true || (false)), HLJ.out, by first | exact round_same HWJ | go_num, rfl, (HST.out (false)).2 (by rw [HE.out]; simp), HB9.out⟩
                              case measure => first | exact round_less HWJ HLJ.out | (have h := HLJ.out; simp [intOf]; omega)
                            | false =>
                              go_wp2
                              go_roundw
                              case rel => exact ⟨q + 1, (false || (false)), HLJ.out, by first | exact round_same HWJ | go_num, rfl, (HST.out (false)).2 (by rw [HE.out]; simp), HB9.out⟩
                              case measure => first | exact round_less HWJ HLJ.out | (have h := HLJ.out; simp [intOf]; omega)
                        · have HNO : Hid (¬ atOf hq1 ≤ (nn : Int)) := of_decide_eq_false f1
                          go_upto_region 24 with fail
                          have HS : Hid (∀ w', Below wk.heap.size wk w' → (Below wk.heap.size wk w' ∧ (∀ p, w'.cell? ⟨gk, p, none⟩ = (#[.int .u8 ((kiOf hq1).toNat : Int), .int .i64 (atOf hq1), .int .i64 (manyOf hq1), .slice Ah (datOf hq1).length ch] : Array Value).toList[p]?))) := fun w' b => ⟨b, (K2.next b).cell⟩
                          refine wp_region_held_drew (S := fun w' => Below wk.heap.size wk w' ∧ (∀ p, w'.cell? ⟨gk, p, none⟩ = (#[.int .u8 ((kiOf hq1).toNat : Int), .int .i64 (atOf hq1), .int .i64 (manyOf hq1), .slice Ah (datOf hq1).length ch] : Array Value).toList[p]?)) (by kernel_rfl) (HS.out _ (Ext.drew (Below.refl _ _))) (fun hS => ?_)
                          refine wpAnyH_take (i := 0) (oi := _) (v := ?_) rfl (by kernel_rfl) (by kernel_rfl) (by kernel_rfl) (fun _ _ _ h => h) (Or.inl ⟨by rfl, ?_⟩) hS ?_
                          rotate_left
                          · (intro w hSw; (try dsimp only at hSw); go_simp; (try with_reducible rfl))
                          rotate_left
                          simp only [Act.put, List.getElem_toArray, List.getElem_cons_zero, List.getElem_cons_succ, List.setIfInBounds_toArray, List.set_cons_zero, List.set_cons_succ]
                          refine wpAnyH_take (i := 1) (oi := _) (v := ?_) rfl (by kernel_rfl) (by kernel_rfl) (by kernel_rfl) (fun _ _ _ h => h) (Or.inl ⟨by rfl, ?_⟩) hS ?_
                          rotate_left
                          · (intro w hSw; (try dsimp only at hSw); go_simp; (try with_reducible rfl))
                          rotate_left
                          simp only [Act.put, List.getElem_toArray, List.getElem_cons_zero, List.getElem_cons_succ, List.setIfInBounds_toArray, List.set_cons_zero, List.set_cons_succ]
                          refine wpAnyH_take (i := 2) (oi := _) (v := ?_) rfl (by kernel_rfl) (by kernel_rfl) (by kernel_rfl) (fun _ _ _ h => h) (Or.inl ⟨by rfl, ?_⟩) hS ?_
                          rotate_left
                          · (intro w hSw; (try dsimp only at hSw); go_simp; (try with_reducible rfl))
                          rotate_left
                          simp only [Act.put, List.getElem_toArray, List.getElem_cons_zero, List.getElem_cons_succ, List.setIfInBounds_toArray, List.set_cons_zero, List.set_cons_succ]
                          refine wpAnyH_take (i := 3) (oi := _) (v := ?_) rfl (by kernel_rfl) (by kernel_rfl) (by kernel_rfl) (fun _ _ _ h => h) (Or.inr ⟨by rfl, ?_⟩) hS ?_
                          rotate_left
                          · rfl
                          rotate_left
                          simp only [Act.put, List.getElem_toArray, List.getElem_cons_zero, List.getElem_cons_succ, List.setIfInBounds_toArray, List.set_cons_zero, List.set_cons_succ]
                          refine wpAnyH_take (i := 4) (oi := _) (v := ?_) rfl (by kernel_rfl) (by kernel_rfl) (by kernel_rfl) (fun _ _ _ h => h) (Or.inr ⟨by rfl, ?_⟩) hS ?_
                          rotate_left
                          · rfl
                          rotate_left
                          simp only [Act.put, List.getElem_toArray, List.getElem_cons_zero, List.getElem_cons_succ, List.setIfInBounds_toArray, List.set_cons_zero, List.set_cons_succ]
                          refine wpAnyH_take (i := 5) (oi := _) (v := ?_) rfl (by kernel_rfl) (by kernel_rfl) (by kernel_rfl) (fun _ _ _ h => h) (Or.inr ⟨by rfl, ?_⟩) hS ?_
                          rotate_left
                          · rfl
                          rotate_left
                          simp only [Act.put, List.getElem_toArray, List.getElem_cons_zero, List.getElem_cons_succ, List.setIfInBounds_toArray, List.set_cons_zero, List.set_cons_succ]
                          refine wpAnyH_take (i := 6) (oi := _) (v := ?_) rfl (by kernel_rfl) (by kernel_rfl) (by kernel_rfl) (fun _ _ _ h => h) (Or.inr ⟨by rfl, ?_⟩) hS ?_
                          rotate_left
                          · rfl
                          rotate_left
                          simp only [Act.put, List.getElem_toArray, List.getElem_cons_zero, List.getElem_cons_succ, List.setIfInBounds_toArray, List.set_cons_zero, List.set_cons_succ]
                          refine wpAnyH_take (i := 7) (oi := _) (v := ?_) rfl (by kernel_rfl) (by kernel_rfl) (by kernel_rfl) (fun _ _ _ h => h) (Or.inl ⟨by rfl, ?_⟩) hS ?_
                          rotate_left
                          · (intro w hSw; (try dsimp only at hSw); go_simp; (try with_reducible rfl))
                          rotate_left
                          simp only [Act.put, List.getElem_toArray, List.getElem_cons_zero, List.getElem_cons_succ, List.setIfInBounds_toArray, List.set_cons_zero, List.set_cons_succ]
                          refine wpAnyH_take (i := 8) (oi := _) (v := ?_) rfl (by kernel_rfl) (by kernel_rfl) (by kernel_rfl) (fun _ _ _ h => h) (Or.inl ⟨by rfl, ?_⟩) hS ?_
                          rotate_left
                          · (intro w hSw; (try dsimp only at hSw); go_simp; (try with_reducible rfl))
                          rotate_left
                          simp only [Act.put, List.getElem_toArray, List.getElem_cons_zero, List.getElem_cons_succ, List.setIfInBounds_toArray, List.set_cons_zero, List.set_cons_succ]
                          refine wpAnyH_take (i := 9) (oi := _) (v := ?_) rfl (by kernel_rfl) (by kernel_rfl) (by kernel_rfl) (fun _ _ _ h => h) (Or.inr ⟨by rfl, ?_⟩) hS ?_
                          rotate_left
                          · rfl
                          rotate_left
                          simp only [Act.put, List.getElem_toArray, List.getElem_cons_zero, List.getElem_cons_succ, List.setIfInBounds_toArray, List.set_cons_zero, List.set_cons_succ]
                          refine wpAnyH_take (i := 10) (oi := _) (v := ?_) rfl (by kernel_rfl) (by kernel_rfl) (by kernel_rfl) (fun _ _ _ h => h) (Or.inr ⟨by rfl, ?_⟩) hS ?_
                          rotate_left
                          · rfl
                          rotate_left
                          simp only [Act.put, List.getElem_toArray, List.getElem_cons_zero, List.getElem_cons_succ, List.setIfInBounds_toArray, List.set_cons_zero, List.set_cons_succ]
                          refine wpAnyH_take (i := 11) (oi := _) (v := ?_) rfl (by kernel_rfl) (by kernel_rfl) (by kernel_rfl) (fun _ _ _ h => h) (Or.inr ⟨by rfl, ?_⟩) hS ?_
                          rotate_left
                          · rfl
                          rotate_left
                          simp only [Act.put, List.getElem_toArray, List.getElem_cons_zero, List.getElem_cons_succ, List.setIfInBounds_toArray, List.set_cons_zero, List.set_cons_succ]
                          refine wpAnyH_take (i := 12) (oi := _) (v := ?_) rfl (by kernel_rfl) (by kernel_rfl) (by kernel_rfl) (fun _ _ _ h => h) (Or.inr ⟨by rfl, ?_⟩) hS ?_
                          rotate_left
                          · rfl
                          rotate_left
                          simp only [Act.put, List.getElem_toArray, List.getElem_cons_zero, List.getElem_cons_succ, List.setIfInBounds_toArray, List.set_cons_zero, List.set_cons_succ]
                          refine wpAnyH_take (i := 13) (oi := _) (v := ?_) rfl (by kernel_rfl) (by kernel_rfl) (by kernel_rfl) (fun _ _ _ h => h) (Or.inr ⟨by rfl, ?_⟩) hS ?_
                          rotate_left
                          · rfl
                          rotate_left
                          simp only [Act.put, List.getElem_toArray, List.getElem_cons_zero, List.getElem_cons_succ, List.setIfInBounds_toArray, List.set_cons_zero, List.set_cons_succ]
                          refine wpAnyH_take (i := 14) (oi := _) (v := ?_) rfl (by kernel_rfl) (by kernel_rfl) (by kernel_rfl) (fun _ _ _ h => h) (Or.inl ⟨by rfl, ?_⟩) hS ?_
                          rotate_left
                          · (intro w hSw; (try dsimp only at hSw); go_simp; (try with_reducible rfl))
                          rotate_left
                          simp only [Act.put, List.getElem_toArray, List.getElem_cons_zero, List.getElem_cons_succ, List.setIfInBounds_toArray, List.set_cons_zero, List.set_cons_succ]
                          refine wpAnyH_take (i := 15) (oi := _) (v := ?_) rfl (by kernel_rfl) (by kernel_rfl) (by kernel_rfl) (fun _ _ _ h => h) (Or.inl ⟨by rfl, ?_⟩) hS ?_
                          rotate_left
                          · (intro w hSw; (try dsimp only at hSw); go_simp; (try with_reducible rfl))
                          rotate_left
                          simp only [Act.put, List.getElem_toArray, List.getElem_cons_zero, List.getElem_cons_succ, List.setIfInBounds_toArray, List.set_cons_zero, List.set_cons_succ]
                          refine wpAnyH_done (by kernel_rfl) ?_ _
                          have bH := hS.1
                          clear hS HS
                          have HB9 := Lib.hid (Ext.trans HB8.out bH)
                          clear bH f1
                          have HE : Hid (hitB (nn : Int) ds hq1 = (false)) := by show _ = _; unfold hitB; rw [decide_eq_false (show ¬ atOf hq1 ≤ (nn : Int) by have := HNO.out; omega)]; simp
                          cases gb with
                          | true =>
                            go_wp2
                            go_roundw
                            case rel => exact ⟨q + 1, (true || (false)), HLJ.out, by first | exact round_same HWJ | go_num, rfl, (HST.out (false)).2 (by rw [HE.out]; simp), HB9.out⟩
                            case measure => first | exact round_less HWJ HLJ.out | (have h := HLJ.out; simp [intOf]; omega)
                          | false =>
                            go_wp2
                            go_roundw
                            case rel => exact ⟨q + 1, (false || (false)), HLJ.out, by first | exact round_same HWJ | go_num, rfl, (HST.out (false)).2 (by rw [HE.out]; simp), HB9.out⟩
                            case measure => first | exact round_less HWJ HLJ.out | (have h := HLJ.out; simp [intOf]; omega)
                      · have HNW : Hid (kWrites ((kiOf hq1).toNat : Int) = false) := by
                          have h1 : ¬ ((kiOf hq1).toNat : Int) = 2 := by simpa using e2
                          have h2 : ¬ ((kiOf hq1).toNat : Int) = 3 := by simpa using e3
                          have h3 : ¬ ((kiOf hq1).toNat : Int) = 5 := by simpa using e5
                          show _ = _
                          unfold kWrites
                          exact decide_eq_false (by omega)
                        have HE : Hid (hitB (nn : Int) ds hq1 = (false)) := by show _ = _; unfold hitB; rw [HNW.out]; simp
                        cases gb with
                        | true =>
                          go_wp2
                          go_roundw
                          case rel => exact ⟨q + 1, (true || (false)), HLJ.out, by first | exact round_same HWJ | go_num, rfl, (HST.out (false)).2 (by rw [HE.out]; simp), HB8.out⟩
                          case measure => first | exact round_less HWJ HLJ.out | (have h := HLJ.out; simp [intOf]; omega)
                        | false =>
                          go_wp2
                          go_roundw
                          case rel => exact ⟨q + 1, (false || (false)), HLJ.out, by first | exact round_same HWJ | go_num, rfl, (HST.out (false)).2 (by rw [HE.out]; simp), HB8.out⟩
                          case measure => first | exact round_less HWJ HLJ.out | (have h := HLJ.out; simp [intOf]; omega)
                · have hqe : q = hs.length := by omega
                  have HGB : Hid (gb = true ↔ true ∈ hs.map (hitB (nn : Int) ds)) := by
                    have h1 := hgb.out
                    rw [List.take_of_length_le (by omega)] at h1
                    exact h1
                  have A7 := HA6.out.next b7
                  have C7 := HC6.out.next b7
                  have P7 := (HP4.out.next (Ext.trans HB6.out b7))
                  have T7 := Lib.hid (Ext.trans HT6.out b7)
                  have hnn9 : nn ≤ 1000 := by have := HM1.out.1; have := HOK.out.short; omega
                  have hay9 : a + y ≤ 1000 := by have := HEA.out.fit; have := HOK.out.short; omega
                  have HNY := Lib.hid (And.intro hnn9 hay9)
                  clear hgb hqe hnn9 hay9
                  rcases Bool.eq_false_or_eq_true (((kiOf g).toNat : Int) == 3) with e3 | e3
                  · have HK3 : Hid (((kiOf g).toNat : Int) = 3) := by show _ = _; simpa using e3
                    have e4 : (((kiOf g).toNat : Int) == 4) = false := by rw [HK3.out]; rfl
                    by_cases f1 : a ≤ nn
                    · by_cases f2 : nn < a + y
                      · obtain ⟨i, hi⟩ : ∃ i : Nat, nn = a + i := ⟨nn - a, by omega⟩
                        have HI := Lib.hid hi
                        have HIY : Hid (i < y) := by show _ < _; omega
                        have HLN : Hid (i * 128 + 128 ≤ (datOf g).length) := by
                          have h1 := HEA.out.bytes (by rw [HK3.out]; decide)
                          show _ ≤ _
                          omega
                        have hrb1 := HRB.out.below (Ext.trans HB6.out b7)
                        obtain ⟨db, dof, rfl⟩ : ∃ db dof, Ag = some ⟨db, dof, none⟩ := by
                          rcases hrb1.bytes_bs.2 with h0 | ⟨db, dof, e, _⟩
                          · have h1 : datOf g = [] := by simpa using h0
                            have := HLN.out
                            rw [h1] at this
                            simp at this
                          · exact ⟨db, dof, e⟩
                        have hcl : (datOf g).length ≤ cg := by obtain ⟨_, c', e, hn, _⟩ := rdin_sl.1 hrb1; injection e with e _; injection e with _ _ e3; rw [e3]; exact hn
                        have hp1 := (hrb1.part HLN.out).bytes_bs
                        rw [part128_len HLN.out] at hp1
                        have HP1 := Lib.hid hp1
                        have i8 : i < 8 := by have := HEA.out.few; have := HIY.out; omega
                        obtain ⟨p1, hp1e⟩ : ∃ p1 : Nat, p1 = i * 128 := ⟨_, rfl⟩
                        obtain ⟨p2, hp2e⟩ : ∃ p2 : Nat, p2 = i * 128 + 128 := ⟨_, rfl⟩
                        rw [← hp1e] at HP1
                        have w1 : IntKind.i64.wrap ((i : Int) * 128) = (p1 : Int) := by rw [i64_fit (by omega)]; omega
                        have w2 : IntKind.i64.wrap ((p1 : Int) + 128) = (p2 : Int) := by rw [i64_fit (by omega)]; omega
                        have hln := HLN.out
                        have w3 : p1 ≤ p2 := by omega
                        have w4 : p2 ≤ cg := by omega
                        have w5 : ¬ cg = p1 := by omega
                        have w6 : p2 - p1 = 128 := by omega
                        have w7 : wrap64 ((nn : Int) - (a : Int)) = (i : Int) := by rw [IntWalk.wrap64_in _ (by omega)]; omega
                        obtain ⟨ay, hay⟩ : ∃ ay : Nat, ay = a + y := ⟨_, rfl⟩
                        have w8 : wrap64 ((a : Int) + (y : Int)) = (ay : Int) := by have := HNY.out.2; rw [IntWalk.wrap64_in _ (by omega)]; omega
                        have f3 : nn < ay := by omega
                        have x7 := A7.cell
                        clear hay f2 hp1e hp2e hln i8 hi hp1 hcl hrb1
                        go_upto_region 29 with fail
                        have HS : Hid (∀ w', Below wr.heap.size wr w' → (Below wr.heap.size wr w' ∧ (∀ p, w'.cell? ⟨ga, p, none⟩ = (#[.int .i64 number, .int .u8 ((kiOf g).toNat : Int), .int .i64 (a : Int), .int .i64 (y : Int), .slice (some ⟨db, dof, none⟩) (datOf g).length cg, .slice Am (mksOf g).length cm] : Array Value).toList[p]?) ∧ Bs w' (some ⟨db, dof + p1, none⟩) 128 (part128 (datOf g) i) ∧ Bs w' D ds.length ds)) := fun w' b => ⟨b, (A7.next b).cell, HP1.out.below b, (HD.out.below T7.out).bytes_bs.below b⟩
                        refine wp_region_held_drew (S := fun w' => Below wr.heap.size wr w' ∧ (∀ p, w'.cell? ⟨ga, p, none⟩ = (#[.int .i64 number, .int .u8 ((kiOf g).toNat : Int), .int .i64 (a : Int), .int .i64 (y : Int), .slice (some ⟨db, dof, none⟩) (datOf g).length cg, .slice Am (mksOf g).length cm] : Array Value).toList[p]?) ∧ Bs w' (some ⟨db, dof + p1, none⟩) 128 (part128 (datOf g) i) ∧ Bs w' D ds.length ds) (by kernel_rfl) (HS.out _ (Ext.drew (Below.refl _ _))) (fun hS => ?_)
                        have HFU : Hid (is = true ↔ (gb = true ∨ ds = part128 (datOf g) i)) := by
                          have h1 := HEA.out.fua HK3.out HIY.out (ds := ds)
                          rw [← HI.out] at h1
                          exact HM1.out.2.trans (h1.trans (or_congr HGB.out.symm Iff.rfl))
                        cases gb with
                        | true =>
                          refine wpAnyH_take (i := 0) (oi := _) (v := ?_) rfl (by kernel_rfl) (by kernel_rfl) (by kernel_rfl) (fun _ _ _ h => h) (Or.inl ⟨by rfl, ?_⟩) hS ?_
                          rotate_left
                          · (intro w hSw; (try dsimp only at hSw); go_simp; (try with_reducible rfl))
                          rotate_left
                          simp only [Act.put, List.getElem_toArray, List.getElem_cons_zero, List.getElem_cons_succ, List.setIfInBounds_toArray, List.set_cons_zero, List.set_cons_succ]
                          refine wpAnyH_take (i := 1) (oi := _) (v := ?_) rfl (by kernel_rfl) (by kernel_rfl) (by kernel_rfl) (fun _ _ _ h => h) (Or.inl ⟨by rfl, ?_⟩) hS ?_
                          rotate_left
                          · (intro w hSw; (try dsimp only at hSw); go_simp; (try with_reducible rfl))
                          rotate_left
                          simp only [Act.put, List.getElem_toArray, List.getElem_cons_zero, List.getElem_cons_succ, List.setIfInBounds_toArray, List.set_cons_zero, List.set_cons_succ]
                          refine wpAnyH_take (i := 2) (oi := _) (v := ?_) rfl (by kernel_rfl) (by kernel_rfl) (by kernel_rfl) (fun _ _ _ h => h) (Or.inl ⟨by rfl, ?_⟩) hS ?_
                          rotate_left
                          · (intro w hSw; (try dsimp only at hSw); go_simp; (try with_reducible rfl))
                          rotate_left
                          simp only [Act.put, List.getElem_toArray, List.getElem_cons_zero, List.getElem_cons_succ, List.setIfInBounds_toArray, List.set_cons_zero, List.set_cons_succ]
                          refine wpAnyH_take (i := 3) (oi := _) (v := ?_) rfl (by kernel_rfl) (by kernel_rfl) (by kernel_rfl) (fun _ _ _ h => h) (Or.inl ⟨by rfl, ?_⟩) hS ?_
                          rotate_left
                          · (intro w hSw; (try dsimp only at hSw); go_simp; (try with_reducible rfl))
                          rotate_left
                          simp only [Act.put, List.getElem_toArray, List.getElem_cons_zero, List.getElem_cons_succ, List.setIfInBounds_toArray, List.set_cons_zero, List.set_cons_succ]
                          refine wpAnyH_take (i := 4) (oi := _) (v := ?_) rfl (by kernel_rfl) (by kernel_rfl) (by kernel_rfl) (fun _ _ _ h => h) (Or.inl ⟨by rfl, ?_⟩) hS ?_
                          rotate_left
                          · (intro w hSw; (try dsimp only at hSw); go_simp; (try with_reducible rfl))
                          rotate_left
                          simp only [Act.put, List.getElem_toArray, List.getElem_cons_zero, List.getElem_cons_succ, List.setIfInBounds_toArray, List.set_cons_zero, List.set_cons_succ]
                          refine wpAnyH_take (i := 5) (oi := _) (v := ?_) rfl (by kernel_rfl) (by kernel_rfl) (by kernel_rfl) (fun _ _ _ h => h) (Or.inr ⟨by rfl, ?_⟩) hS ?_
                          rotate_left
                          · rfl
                          rotate_left
                          simp only [Act.put, List.getElem_toArray, List.getElem_cons_zero, List.getElem_cons_succ, List.setIfInBounds_toArray, List.set_cons_zero, List.set_cons_succ]
                          refine wpAnyH_take (i := 6) (oi := _) (v := ?_) rfl (by kernel_rfl) (by kernel_rfl) (by kernel_rfl) (fun _ _ _ h => h) (Or.inr ⟨by rfl, ?_⟩) hS ?_
                          rotate_left
                          · rfl
                          rotate_left
                          simp only [Act.put, List.getElem_toArray, List.getElem_cons_zero, List.getElem_cons_succ, List.setIfInBounds_toArray, List.set_cons_zero, List.set_cons_succ]
                          refine wpAnyH_take (i := 7) (oi := _) (v := ?_) rfl (by kernel_rfl) (by kernel_rfl) (by kernel_rfl) (fun _ _ _ h => h) (Or.inr ⟨by rfl, ?_⟩) hS ?_
                          rotate_left
                          · rfl
                          rotate_left
                          simp only [Act.put, List.getElem_toArray, List.getElem_cons_zero, List.getElem_cons_succ, List.setIfInBounds_toArray, List.set_cons_zero, List.set_cons_succ]
                          refine wpAnyH_take (i := 8) (oi := _) (v := ?_) rfl (by kernel_rfl) (by kernel_rfl) (by kernel_rfl) (fun _ _ _ h => h) (Or.inr ⟨by rfl, ?_⟩) hS ?_
                          rotate_left
                          · rfl
                          rotate_left
                          simp only [Act.put, List.getElem_toArray, List.getElem_cons_zero, List.getElem_cons_succ, List.setIfInBounds_toArray, List.set_cons_zero, List.set_cons_succ]
                          refine wpAnyH_take (i := 9) (oi := _) (v := ?_) rfl (by kernel_rfl) (by kernel_rfl) (by kernel_rfl) (fun _ _ _ h => h) (Or.inr ⟨by rfl, ?_⟩) hS ?_
                          rotate_left
                          · rfl
                          rotate_left
                          simp only [Act.put, List.getElem_toArray, List.getElem_cons_zero, List.getElem_cons_succ, List.setIfInBounds_toArray, List.set_cons_zero, List.set_cons_succ]
                          refine wpAnyH_take (i := 10) (oi := _) (v := ?_) rfl (by kernel_rfl) (by kernel_rfl) (by kernel_rfl) (fun _ _ _ h => h) (Or.inr ⟨by rfl, ?_⟩) hS ?_
                          rotate_left
                          · rfl
                          rotate_left
                          simp only [Act.put, List.getElem_toArray, List.getElem_cons_zero, List.getElem_cons_succ, List.setIfInBounds_toArray, List.set_cons_zero, List.set_cons_succ]
                          refine wpAnyH_take (i := 11) (oi := _) (v := ?_) rfl (by kernel_rfl) (by kernel_rfl) (by kernel_rfl) (fun _ _ _ h => h) (Or.inr ⟨by rfl, ?_⟩) hS ?_
                          rotate_left
                          · rfl
                          rotate_left
                          simp only [Act.put, List.getElem_toArray, List.getElem_cons_zero, List.getElem_cons_succ, List.setIfInBounds_toArray, List.set_cons_zero, List.set_cons_succ]
                          refine wpAnyH_take (i := 12) (oi := _) (v := ?_) rfl (by kernel_rfl) (by kernel_rfl) (by kernel_rfl) (fun _ _ _ h => h) (Or.inr ⟨by rfl, ?_⟩) hS ?_
                          rotate_left
                          · rfl
                          rotate_left
                          simp only [Act.put, List.getElem_toArray, List.getElem_cons_zero, List.getElem_cons_succ, List.setIfInBounds_toArray, List.set_cons_zero, List.set_cons_succ]
                          refine wpAnyH_take (i := 13) (oi := _) (v := ?_) rfl (by kernel_rfl) (by kernel_rfl) (by kernel_rfl) (fun _ _ _ h => h) (Or.inr ⟨by rfl, ?_⟩) hS ?_
                          rotate_left
                          · rfl
                          rotate_left
                          simp only [Act.put, List.getElem_toArray, List.getElem_cons_zero, List.getElem_cons_succ, List.setIfInBounds_toArray, List.set_cons_zero, List.set_cons_succ]
                          refine wpAnyH_take (i := 14) (oi := _) (v := ?_) rfl (by kernel_rfl) (by kernel_rfl) (by kernel_rfl) (fun _ _ _ h => h) (Or.inr ⟨by rfl, ?_⟩) hS ?_
                          rotate_left
                          · rfl
                          rotate_left
                          simp only [Act.put, List.getElem_toArray, List.getElem_cons_zero, List.getElem_cons_succ, List.setIfInBounds_toArray, List.set_cons_zero, List.set_cons_succ]
                          refine wpAnyH_take (i := 15) (oi := _) (v := ?_) rfl (by kernel_rfl) (by kernel_rfl) (by kernel_rfl) (fun _ _ _ h => h) (Or.inr ⟨by rfl, ?_⟩) hS ?_
                          rotate_left
                          · rfl
                          rotate_left
                          simp only [Act.put, List.getElem_toArray, List.getElem_cons_zero, List.getElem_cons_succ, List.setIfInBounds_toArray, List.set_cons_zero, List.set_cons_succ]
                          refine wpAnyH_take (i := 16) (oi := _) (v := ?_) rfl (by kernel_rfl) (by kernel_rfl) (by kernel_rfl) (fun _ _ _ h => h) (Or.inr ⟨by rfl, ?_⟩) hS ?_
                          rotate_left
                          · rfl
                          rotate_left
                          simp only [Act.put, List.getElem_toArray, List.getElem_cons_zero, List.getElem_cons_succ, List.setIfInBounds_toArray, List.set_cons_zero, List.set_cons_succ]
                          refine wpAnyH_take (i := 17) (oi := _) (v := ?_) rfl (by kernel_rfl) (by kernel_rfl) (by kernel_rfl) (fun _ _ _ h => h) (Or.inr ⟨by rfl, ?_⟩) hS ?_
                          rotate_left
                          · rfl
                          rotate_left
                          simp only [Act.put, List.getElem_toArray, List.getElem_cons_zero, List.getElem_cons_succ, List.setIfInBounds_toArray, List.set_cons_zero, List.set_cons_succ]
                          refine wpAnyH_take (i := 18) (oi := _) (v := ?_) rfl (by kernel_rfl) (by kernel_rfl) (by kernel_rfl) (fun _ _ _ h => h) (Or.inl ⟨by rfl, ?_⟩) hS ?_
                          rotate_left
                          · (intro w hSw; (try dsimp only at hSw); go_simp; (try with_reducible rfl))
                          rotate_left
                          simp only [Act.put, List.getElem_toArray, List.getElem_cons_zero, List.getElem_cons_succ, List.setIfInBounds_toArray, List.set_cons_zero, List.set_cons_succ]
                          refine wpAnyH_take (i := 19) (oi := _) (v := ?_) rfl (by kernel_rfl) (by kernel_rfl) (by kernel_rfl) (fun _ _ _ h => h) (Or.inl ⟨by rfl, ?_⟩) hS ?_
                          rotate_left
                          · (intro w hSw; (try dsimp only at hSw); go_simp; (try with_reducible rfl))
                          rotate_left
                          simp only [Act.put, List.getElem_toArray, List.getElem_cons_zero, List.getElem_cons_succ, List.setIfInBounds_toArray, List.set_cons_zero, List.set_cons_succ]
                          refine wpAnyH_take (i := 20) (oi := _) (v := ?_) rfl (by kernel_rfl) (by kernel_rfl) (by kernel_rfl) (fun _ _ _ h => h) (Or.inl ⟨by rfl, ?_⟩) hS ?_
                          rotate_left
                          · (intro w hSw; (try dsimp only at hSw); go_simp; (try with_reducible rfl))
                          rotate_left
                          simp only [Act.put, List.getElem_toArray, List.getElem_cons_zero, List.getElem_cons_succ, List.setIfInBounds_toArray, List.set_cons_zero, List.set_cons_succ]
                          refine wpAnyH_take (i := 21) (oi := _) (v := ?_) rfl (by kernel_rfl) (by kernel_rfl) (by kernel_rfl) (fun _ _ _ h => h) (Or.inl ⟨by rfl, ?_⟩) hS ?_
                          rotate_left
                          · (intro w hSw; (try dsimp only at hSw); go_simp; (try with_reducible rfl))
                          rotate_left
                          simp only [Act.put, List.getElem_toArray, List.getElem_cons_zero, List.getElem_cons_succ, List.setIfInBounds_toArray, List.set_cons_zero, List.set_cons_succ]
                          refine wpAnyH_done (by kernel_rfl) ?_ _
                          have bH := hS.1
                          clear hS HS
                          have HT9 := Lib.hid (Ext.trans T7.out bH)
                          clear bH
                          have his : is = true := HFU.out.2 (.inl rfl)
                          subst his
                          go_wp2
                          go_ret
                          exact ⟨by first | rfl | simp, HT9.out⟩
                        | false =>
                          refine wpAnyH_take (i := 0) (oi := _) (v := ?_) rfl (by kernel_rfl) (by kernel_rfl) (by kernel_rfl) (fun _ _ _ h => h) (Or.inl ⟨by rfl, ?_⟩) hS ?_
                          rotate_left
                          · (intro w hSw; (try dsimp only at hSw); go_simp; (try with_reducible rfl))
                          rotate_left
                          simp only [Act.put, List.getElem_toArray, List.getElem_cons_zero, List.getElem_cons_succ, List.setIfInBounds_toArray, List.set_cons_zero, List.set_cons_succ]
                          refine wpAnyH_take (i := 1) (oi := _) (v := ?_) rfl (by kernel_rfl) (by kernel_rfl) (by kernel_rfl) (fun _ _ _ h => h) (Or.inl ⟨by rfl, ?_⟩) hS ?_
                          rotate_left
                          · (intro w hSw; (try dsimp only at hSw); go_simp; (try with_reducible rfl))
                          rotate_left
                          simp only [Act.put, List.getElem_toArray, List.getElem_cons_zero, List.getElem_cons_succ, List.setIfInBounds_toArray, List.set_cons_zero, List.set_cons_succ]
                          refine wpAnyH_take (i := 2) (oi := _) (v := ?_) rfl (by kernel_rfl) (by kernel_rfl) (by kernel_rfl) (fun _ _ _ h => h) (Or.inl ⟨by rfl, ?_⟩) hS ?_
                          rotate_left
                          · (intro w hSw; (try dsimp only at hSw); go_simp; (try with_reducible rfl))
                          rotate_left
                          simp only [Act.put, List.getElem_toArray, List.getElem_cons_zero, List.getElem_cons_succ, List.setIfInBounds_toArray, List.set_cons_zero, List.set_cons_succ]
                          refine wpAnyH_take (i := 3) (oi := _) (v := ?_) rfl (by kernel_rfl) (by kernel_rfl) (by kernel_rfl) (fun _ _ _ h => h) (Or.inl ⟨by rfl, ?_⟩) hS ?_
                          rotate_left
                          · (intro w hSw; (try dsimp only at hSw); go_simp; (try with_reducible rfl))
                          rotate_left
                          simp only [Act.put, List.getElem_toArray, List.getElem_cons_zero, List.getElem_cons_succ, List.setIfInBounds_toArray, List.set_cons_zero, List.set_cons_succ]
                          refine wpAnyH_take (i := 4) (oi := _) (v := ?_) rfl (by kernel_rfl) (by kernel_rfl) (by kernel_rfl) (fun _ _ _ h => h) (Or.inl ⟨by rfl, ?_⟩) hS ?_
                          rotate_left
                          · (intro w hSw; (try dsimp only at hSw); go_simp; (try with_reducible rfl))
                          rotate_left
                          simp only [Act.put, List.getElem_toArray, List.getElem_cons_zero, List.getElem_cons_succ, List.setIfInBounds_toArray, List.set_cons_zero, List.set_cons_succ]
                          refine wpAnyH_take (i := 5) (oi := _) (v := ?_) rfl (by kernel_rfl) (by kernel_rfl) (by kernel_rfl) (fun _ _ _ h => h) (Or.inl ⟨by rfl, ?_⟩) hS ?_
                          rotate_left
                          · (intro w hSw; (try dsimp only at hSw); go_simp; (try with_reducible rfl))
                          rotate_left
                          simp only [Act.put, List.getElem_toArray, List.getElem_cons_zero, List.getElem_cons_succ, List.setIfInBounds_toArray, List.set_cons_zero, List.set_cons_succ]
                          refine wpAnyH_take (i := 6) (oi := _) (v := ?_) rfl (by kernel_rfl) (by kernel_rfl) (by kernel_rfl) (fun _ _ _ h => h) (Or.inl ⟨by rfl, ?_⟩) hS ?_
                          rotate_left
                          · (intro w hSw; have sq := run_string_bs (P := Try.prog) dc 29 9 5 Try.underlying29 Try.underlying5 Try.underlying9 hSw.2.2.2; (try dsimp only at hSw); go_simp; (try with_reducible rfl))
                          rotate_left
                          try simp only [Act.put, List.getElem_toArray, List.getElem_cons_zero, List.getElem_cons_succ, List.setIfInBounds_toArray, List.set_cons_zero, List.set_cons_succ]
                          refine wpAnyH_take (i := 7) (oi := _) (v := ?_) rfl (by kernel_rfl) (by kernel_rfl) (by kernel_rfl) (fun _ _ _ h => h) (Or.inl ⟨by rfl, ?_⟩) hS ?_
                          rotate_left
                          · (intro w hSw; (try dsimp only at hSw); go_simp; (try with_reducible rfl))
                          rotate_left
                          simp only [Act.put, List.getElem_toArray, List.getElem_cons_zero, List.getElem_cons_succ, List.setIfInBounds_toArray, List.set_cons_zero, List.set_cons_succ]
                          refine wpAnyH_take (i := 8) (oi := _) (v := ?_) rfl (by kernel_rfl) (by kernel_rfl) (by kernel_rfl) (fun _ _ _ h => h) (Or.inl ⟨by rfl, ?_⟩) hS ?_
                          rotate_left
                          · (intro w hSw; (try dsimp only at hSw); go_simp; (try with_reducible rfl))
                          rotate_left
                          simp only [Act.put, List.getElem_toArray, List.getElem_cons_zero, List.getElem_cons_succ, List.setIfInBounds_toArray, List.set_cons_zero, List.set_cons_succ]
                          refine wpAnyH_take (i := 9) (oi := _) (v := ?_) rfl (by kernel_rfl) (by kernel_rfl) (by kernel_rfl) (fun _ _ _ h => h) (Or.inl ⟨by rfl, ?_⟩) hS ?_
                          rotate_left
                          · (intro w hSw; (try dsimp only at hSw); go_simp; (try with_reducible rfl))
                          rotate_left
                          simp only [Act.put, List.getElem_toArray, List.getElem_cons_zero, List.getElem_cons_succ, List.setIfInBounds_toArray, List.set_cons_zero, List.set_cons_succ]
                          refine wpAnyH_take (i := 10) (oi := _) (v := ?_) rfl (by kernel_rfl) (by kernel_rfl) (by kernel_rfl) (fun _ _ _ h => h) (Or.inl ⟨by rfl, ?_⟩) hS ?_
                          rotate_left
                          · (intro w hSw; (try dsimp only at hSw); go_simp; (try with_reducible rfl))
                          rotate_left
                          simp only [Act.put, List.getElem_toArray, List.getElem_cons_zero, List.getElem_cons_succ, List.setIfInBounds_toArray, List.set_cons_zero, List.set_cons_succ]
                          refine wpAnyH_take (i := 11) (oi := _) (v := ?_) rfl (by kernel_rfl) (by kernel_rfl) (by kernel_rfl) (fun _ _ _ h => h) (Or.inl ⟨by rfl, ?_⟩) hS ?_
                          rotate_left
                          · (intro w hSw; (try dsimp only at hSw); go_simp; (try with_reducible rfl))
                          rotate_left
                          simp only [Act.put, List.getElem_toArray, List.getElem_cons_zero, List.getElem_cons_succ, List.setIfInBounds_toArray, List.set_cons_zero, List.set_cons_succ]
                          refine wpAnyH_take (i := 12) (oi := _) (v := ?_) rfl (by kernel_rfl) (by kernel_rfl) (by kernel_rfl) (fun _ _ _ h => h) (Or.inl ⟨by rfl, ?_⟩) hS ?_
                          rotate_left
                          · (intro w hSw; (try dsimp only at hSw); go_simp; (try with_reducible rfl))
                          rotate_left
                          simp only [Act.put, List.getElem_toArray, List.getElem_cons_zero, List.getElem_cons_succ, List.setIfInBounds_toArray, List.set_cons_zero, List.set_cons_succ]
                          refine wpAnyH_take (i := 13) (oi := _) (v := ?_) rfl (by kernel_rfl) (by kernel_rfl) (by kernel_rfl) (fun _ _ _ h => h) (Or.inl ⟨by rfl, ?_⟩) hS ?_
                          rotate_left
                          · (intro w hSw; (try dsimp only at hSw); go_simp; (try with_reducible rfl))
                          rotate_left
                          simp only [Act.put, List.getElem_toArray, List.getElem_cons_zero, List.getElem_cons_succ, List.setIfInBounds_toArray, List.set_cons_zero, List.set_cons_succ]
                          refine wpAnyH_take (i := 14) (oi := _) (v := ?_) rfl (by kernel_rfl) (by kernel_rfl) (by kernel_rfl) (fun _ _ _ h => h) (Or.inl ⟨by rfl, ?_⟩) hS ?_
                          rotate_left
                          · (intro w hSw; (try dsimp only at hSw); go_simp; (try with_reducible rfl))
                          rotate_left
                          simp only [Act.put, List.getElem_toArray, List.getElem_cons_zero, List.getElem_cons_succ, List.setIfInBounds_toArray, List.set_cons_zero, List.set_cons_succ]
                          refine wpAnyH_take (i := 15) (oi := _) (v := ?_) rfl (by kernel_rfl) (by kernel_rfl) (by kernel_rfl) (fun _ _ _ h => h) (Or.inl ⟨by rfl, ?_⟩) hS ?_
                          rotate_left
                          · (intro w hSw; (try dsimp only at hSw); go_simp; (try with_reducible rfl))
                          rotate_left
                          simp only [Act.put, List.getElem_toArray, List.getElem_cons_zero, List.getElem_cons_succ, List.setIfInBounds_toArray, List.set_cons_zero, List.set_cons_succ]
                          refine wpAnyH_take (i := 16) (oi := _) (v := ?_) rfl (by kernel_rfl) (by kernel_rfl) (by kernel_rfl) (fun _ _ _ h => h) (Or.inl ⟨by rfl, ?_⟩) hS ?_
                          rotate_left
                          · (intro w hSw; have sq := run_string_bs (P := Try.prog) (cg - p1) 29 9 5 Try.underlying29 Try.underlying5 Try.underlying9 hSw.2.2.1; (try dsimp only at hSw); go_simp; (try with_reducible rfl))
                          rotate_left
                          try simp only [Act.put, List.getElem_toArray, List.getElem_cons_zero, List.getElem_cons_succ, List.setIfInBounds_toArray, List.set_cons_zero, List.set_cons_succ]
                          refine wpAnyH_take (i := 17) (oi := _) (v := ?_) rfl (by kernel_rfl) (by kernel_rfl) (by kernel_rfl) (fun _ _ _ h => h) (Or.inl ⟨by rfl, ?_⟩) hS ?_
                          rotate_left
                          · (intro w hSw; (try dsimp only at hSw); go_simp; (try with_reducible rfl))
                          rotate_left
                          simp only [Act.put, List.getElem_toArray, List.getElem_cons_zero, List.getElem_cons_succ, List.setIfInBounds_toArray, List.set_cons_zero, List.set_cons_succ]
                          refine wpAnyH_take (i := 18) (oi := _) (v := ?_) rfl (by kernel_rfl) (by kernel_rfl) (by kernel_rfl) (fun _ _ _ h => h) (Or.inl ⟨by rfl, ?_⟩) hS ?_
                          rotate_left
                          · (intro w hSw; (try dsimp only at hSw); go_simp; (try with_reducible rfl))
                          rotate_left
                          simp only [Act.put, List.getElem_toArray, List.getElem_cons_zero, List.getElem_cons_succ, List.setIfInBounds_toArray, List.set_cons_zero, List.set_cons_succ]
                          refine wpAnyH_take (i := 19) (oi := _) (v := ?_) rfl (by kernel_rfl) (by kernel_rfl) (by kernel_rfl) (fun _ _ _ h => h) (Or.inl ⟨by rfl, ?_⟩) hS ?_
                          rotate_left
                          · (intro w hSw; (try dsimp only at hSw); go_simp; (try with_reducible rfl))
                          rotate_left
                          simp only [Act.put, List.getElem_toArray, List.getElem_cons_zero, List.getElem_cons_succ, List.setIfInBounds_toArray, List.set_cons_zero, List.set_cons_succ]
                          refine wpAnyH_take (i := 20) (oi := _) (v := ?_) rfl (by kernel_rfl) (by kernel_rfl) (by kernel_rfl) (fun _ _ _ h => h) (Or.inl ⟨by rfl, ?_⟩) hS ?_
                          rotate_left
                          · (intro w hSw; (try dsimp only at hSw); go_simp; (try with_reducible rfl))
                          rotate_left
                          simp only [Act.put, List.getElem_toArray, List.getElem_cons_zero, List.getElem_cons_succ, List.setIfInBounds_toArray, List.set_cons_zero, List.set_cons_succ]
                          refine wpAnyH_take (i := 21) (oi := _) (v := ?_) rfl (by kernel_rfl) (by kernel_rfl) (by kernel_rfl) (fun _ _ _ h => h) (Or.inl ⟨by rfl, ?_⟩) hS ?_
                          rotate_left
                          · (intro w hSw; (try dsimp only at hSw); go_simp; (try with_reducible rfl))
                          rotate_left
                          simp only [Act.put, List.getElem_toArray, List.getElem_cons_zero, List.getElem_cons_succ, List.setIfInBounds_toArray, List.set_cons_zero, List.set_cons_succ]
                          refine wpAnyH_done (by kernel_rfl) ?_ _
                          have bH := hS.1
                          clear hS HS
                          have HT9 := Lib.hid (Ext.trans T7.out bH)
                          clear bH
                          have HBE : Hid ((is == (ds == part128 (datOf g) i)) = true) := beq_of_iff (HFU.out.trans ⟨fun h => h.elim (fun h => by cases h) (fun h => by rw [beq_iff_eq]; exact h), fun h => .inr (by rwa [beq_iff_eq] at h)⟩)
                          go_wp2
                          go_ret
                          exact ⟨by first | exact congrArg (fun z => Ending.returned (.bool z)) HBE.out | (rw [← HBE.out]), HT9.out⟩
                      · have w8 : wrap64 ((a : Int) + (y : Int)) = ((a + y : Nat) : Int) := by have := HNY.out.2; rw [IntWalk.wrap64_in _ (by omega)]; omega
                        have x7 := A7.cell
                        go_upto_region 30 with fail
                        have HS : Hid (∀ w', Below wr.heap.size wr w' → (Below wr.heap.size wr w' ∧ (∀ p, w'.cell? ⟨ga, p, none⟩ = (#[.int .i64 number, .int .u8 ((kiOf g).toNat : Int), .int .i64 (a : Int), .int .i64 (y : Int), .slice Ag (datOf g).length cg, .slice Am (mksOf g).length cm] : Array Value).toList[p]?))) := fun w' b => ⟨b, (A7.next b).cell⟩
                        refine wp_region_held_drew (S := fun w' => Below wr.heap.size wr w' ∧ (∀ p, w'.cell? ⟨ga, p, none⟩ = (#[.int .i64 number, .int .u8 ((kiOf g).toNat : Int), .int .i64 (a : Int), .int .i64 (y : Int), .slice Ag (datOf g).length cg, .slice Am (mksOf g).length cm] : Array Value).toList[p]?)) (by kernel_rfl) (HS.out _ (Ext.drew (Below.refl _ _))) (fun hS => ?_)
                        refine wpAnyH_take (i := 0) (oi := _) (v := ?_) rfl (by kernel_rfl) (by kernel_rfl) (by kernel_rfl) (fun _ _ _ h => h) (Or.inl ⟨by rfl, ?_⟩) hS ?_
                        rotate_left
                        · (intro w hSw; (try dsimp only at hSw); go_simp; (try with_reducible rfl))
                        rotate_left
                        simp only [Act.put, List.getElem_toArray, List.getElem_cons_zero, List.getElem_cons_succ, List.setIfInBounds_toArray, List.set_cons_zero, List.set_cons_succ]
                        refine wpAnyH_take (i := 1) (oi := _) (v := ?_) rfl (by kernel_rfl) (by kernel_rfl) (by kernel_rfl) (fun _ _ _ h => h) (Or.inl ⟨by rfl, ?_⟩) hS ?_
                        rotate_left
                        · (intro w hSw; (try dsimp only at hSw); go_simp; (try with_reducible rfl))
                        rotate_left
                        simp only [Act.put, List.getElem_toArray, List.getElem_cons_zero, List.getElem_cons_succ, List.setIfInBounds_toArray, List.set_cons_zero, List.set_cons_succ]
                        refine wpAnyH_take (i := 2) (oi := _) (v := ?_) rfl (by kernel_rfl) (by kernel_rfl) (by kernel_rfl) (fun _ _ _ h => h) (Or.inl ⟨by rfl, ?_⟩) hS ?_
                        rotate_left
                        · (intro w hSw; (try dsimp only at hSw); go_simp; (try with_reducible rfl))
                        rotate_left
                        simp only [Act.put, List.getElem_toArray, List.getElem_cons_zero, List.getElem_cons_succ, List.setIfInBounds_toArray, List.set_cons_zero, List.set_cons_succ]
                        refine wpAnyH_take (i := 3) (oi := _) (v := ?_) rfl (by kernel_rfl) (by kernel_rfl) (by kernel_rfl) (fun _ _ _ h => h) (Or.inl ⟨by rfl, ?_⟩) hS ?_
                        rotate_left
                        · (intro w hSw; (try dsimp only at hSw); go_simp; (try with_reducible rfl))
                        rotate_left
                        simp only [Act.put, List.getElem_toArray, List.getElem_cons_zero, List.getElem_cons_succ, List.setIfInBounds_toArray, List.set_cons_zero, List.set_cons_succ]
                        refine wpAnyH_take (i := 4) (oi := _) (v := ?_) rfl (by kernel_rfl) (by kernel_rfl) (by kernel_rfl) (fun _ _ _ h => h) (Or.inl ⟨by rfl, ?_⟩) hS ?_
                        rotate_left
                        · (intro w hSw; (try dsimp only at hSw); go_simp; (try with_reducible rfl))
                        rotate_left
                        simp only [Act.put, List.getElem_toArray, List.getElem_cons_zero, List.getElem_cons_succ, List.setIfInBounds_toArray, List.set_cons_zero, List.set_cons_succ]
                        refine wpAnyH_take (i := 5) (oi := _) (v := ?_) rfl (by kernel_rfl) (by kernel_rfl) (by kernel_rfl) (fun _ _ _ h => h) (Or.inr ⟨by rfl, ?_⟩) hS ?_
                        rotate_left
                        · rfl
                        rotate_left
                        simp only [Act.put, List.getElem_toArray, List.getElem_cons_zero, List.getElem_cons_succ, List.setIfInBounds_toArray, List.set_cons_zero, List.set_cons_succ]
                        refine wpAnyH_take (i := 6) (oi := _) (v := ?_) rfl (by kernel_rfl) (by kernel_rfl) (by kernel_rfl) (fun _ _ _ h => h) (Or.inr ⟨by rfl, ?_⟩) hS ?_
                        rotate_left
                        · rfl
                        rotate_left
                        simp only [Act.put, List.getElem_toArray, List.getElem_cons_zero, List.getElem_cons_succ, List.setIfInBounds_toArray, List.set_cons_zero, List.set_cons_succ]
                        refine wpAnyH_take (i := 7) (oi := _) (v := ?_) rfl (by kernel_rfl) (by kernel_rfl) (by kernel_rfl) (fun _ _ _ h => h) (Or.inr ⟨by rfl, ?_⟩) hS ?_
                        rotate_left
                        · rfl
                        rotate_left
                        simp only [Act.put, List.getElem_toArray, List.getElem_cons_zero, List.getElem_cons_succ, List.setIfInBounds_toArray, List.set_cons_zero, List.set_cons_succ]
                        refine wpAnyH_take (i := 8) (oi := _) (v := ?_) rfl (by kernel_rfl) (by kernel_rfl) (by kernel_rfl) (fun _ _ _ h => h) (Or.inr ⟨by rfl, ?_⟩) hS ?_
                        rotate_left
                        · rfl
                        rotate_left
                        simp only [Act.put, List.getElem_toArray, List.getElem_cons_zero, List.getElem_cons_succ, List.setIfInBounds_toArray, List.set_cons_zero, List.set_cons_succ]
                        refine wpAnyH_take (i := 9) (oi := _) (v := ?_) rfl (by kernel_rfl) (by kernel_rfl) (by kernel_rfl) (fun _ _ _ h => h) (Or.inr ⟨by rfl, ?_⟩) hS ?_
                        rotate_left
                        · rfl
                        rotate_left
                        simp only [Act.put, List.getElem_toArray, List.getElem_cons_zero, List.getElem_cons_succ, List.setIfInBounds_toArray, List.set_cons_zero, List.set_cons_succ]
                        refine wpAnyH_take (i := 10) (oi := _) (v := ?_) rfl (by kernel_rfl) (by kernel_rfl) (by kernel_rfl) (fun _ _ _ h => h) (Or.inr ⟨by rfl, ?_⟩) hS ?_
                        rotate_left
                        · rfl
                        rotate_left
                        simp only [Act.put, List.getElem_toArray, List.getElem_cons_zero, List.getElem_cons_succ, List.setIfInBounds_toArray, List.set_cons_zero, List.set_cons_succ]
                        refine wpAnyH_take (i := 11) (oi := _) (v := ?_) rfl (by kernel_rfl) (by kernel_rfl) (by kernel_rfl) (fun _ _ _ h => h) (Or.inr ⟨by rfl, ?_⟩) hS ?_
                        rotate_left
                        · rfl
                        rotate_left
                        simp only [Act.put, List.getElem_toArray, List.getElem_cons_zero, List.getElem_cons_succ, List.setIfInBounds_toArray, List.set_cons_zero, List.set_cons_succ]
                        refine wpAnyH_take (i := 12) (oi := _) (v := ?_) rfl (by kernel_rfl) (by kernel_rfl) (by kernel_rfl) (fun _ _ _ h => h) (Or.inr ⟨by rfl, ?_⟩) hS ?_
                        rotate_left
                        · rfl
                        rotate_left
                        simp only [Act.put, List.getElem_toArray, List.getElem_cons_zero, List.getElem_cons_succ, List.setIfInBounds_toArray, List.set_cons_zero, List.set_cons_succ]
                        refine wpAnyH_take (i := 13) (oi := _) (v := ?_) rfl (by kernel_rfl) (by kernel_rfl) (by kernel_rfl) (fun _ _ _ h => h) (Or.inr ⟨by rfl, ?_⟩) hS ?_
                        rotate_left
                        · rfl
                        rotate_left
                        simp only [Act.put, List.getElem_toArray, List.getElem_cons_zero, List.getElem_cons_succ, List.setIfInBounds_toArray, List.set_cons_zero, List.set_cons_succ]
                        refine wpAnyH_take (i := 14) (oi := _) (v := ?_) rfl (by kernel_rfl) (by kernel_rfl) (by kernel_rfl) (fun _ _ _ h => h) (Or.inr ⟨by rfl, ?_⟩) hS ?_
                        rotate_left
                        · rfl
                        rotate_left
                        simp only [Act.put, List.getElem_toArray, List.getElem_cons_zero, List.getElem_cons_succ, List.setIfInBounds_toArray, List.set_cons_zero, List.set_cons_succ]
                        refine wpAnyH_take (i := 15) (oi := _) (v := ?_) rfl (by kernel_rfl) (by kernel_rfl) (by kernel_rfl) (fun _ _ _ h => h) (Or.inr ⟨by rfl, ?_⟩) hS ?_
                        rotate_left
                        · rfl
                        rotate_left
                        simp only [Act.put, List.getElem_toArray, List.getElem_cons_zero, List.getElem_cons_succ, List.setIfInBounds_toArray, List.set_cons_zero, List.set_cons_succ]
                        refine wpAnyH_take (i := 16) (oi := _) (v := ?_) rfl (by kernel_rfl) (by kernel_rfl) (by kernel_rfl) (fun _ _ _ h => h) (Or.inr ⟨by rfl, ?_⟩) hS ?_
                        rotate_left
                        · rfl
                        rotate_left
                        simp only [Act.put, List.getElem_toArray, List.getElem_cons_zero, List.getElem_cons_succ, List.setIfInBounds_toArray, List.set_cons_zero, List.set_cons_succ]
                        refine wpAnyH_take (i := 17) (oi := _) (v := ?_) rfl (by kernel_rfl) (by kernel_rfl) (by kernel_rfl) (fun _ _ _ h => h) (Or.inr ⟨by rfl, ?_⟩) hS ?_
                        rotate_left
                        · rfl
                        rotate_left
                        simp only [Act.put, List.getElem_toArray, List.getElem_cons_zero, List.getElem_cons_succ, List.setIfInBounds_toArray, List.set_cons_zero, List.set_cons_succ]
                        refine wpAnyH_take (i := 18) (oi := _) (v := ?_) rfl (by kernel_rfl) (by kernel_rfl) (by kernel_rfl) (fun _ _ _ h => h) (Or.inl ⟨by rfl, ?_⟩) hS ?_
                        rotate_left
                        · (intro w hSw; (try dsimp only at hSw); go_simp; (try with_reducible rfl))
                        rotate_left
                        simp only [Act.put, List.getElem_toArray, List.getElem_cons_zero, List.getElem_cons_succ, List.setIfInBounds_toArray, List.set_cons_zero, List.set_cons_succ]
                        refine wpAnyH_done (by kernel_rfl) ?_ _
                        have bH := hS.1
                        clear hS HS
                        have HT8 := Lib.hid (Ext.trans T7.out bH)
                        have C7' := C7.drew
                        have P7' := P7.drew
                        clear C7 P7 bH
                        have C7 := C7'
                        have P7 := P7'
                        clear C7' P7' T7
                        have T7 := HT8
                        generalize wr.drew = wr at *
                        have c7 := C7.cell
                        have p7 := P7.cell
                        go_wp2_with fail
                        refine (smay_any S ⟨id, m, c, r, l, h⟩ ys gs _ ca (some ⟨bA, oA, none⟩) cb (nn : Int) D dc ds wr (HY.out.below T7.out) (HG.out.below T7.out) (HD.out.below T7.out).bytes_bs).mono ?_
                        rintro e w9 ⟨⟨was, v3, rfl, hmay2⟩, b9⟩
                        have HWAS : Hid (v3 = 0 ∧ (was = true ↔ LeftP ys gs nn ds)) := by
                          rcases hmay2 with h1 | h1 | h1 | h1
                          · exact absurd HOK.out h1.1
                          · exact absurd ⟨by omega, by have := HM1.out.1; omega⟩ h1.2.1
                          · exact absurd HDL.out h1.2.2.1
                          · exact ⟨h1.2.2.2.2, by have h2 := h1.2.2.2.1; rwa [Int.toNat_natCast] at h2⟩
                        have HT9 := Lib.hid (Ext.trans T7.out b9)
                        obtain ⟨rfl, _⟩ := HWAS.out
                        clear hmay2 c7 p7 b9
                        cases is with
                        | false =>
                          go_wp2
                          go_ret
                          exact ⟨by first | rfl | simp, HT9.out⟩
                        | true =>
                          have HW1 : Hid (was = true) := HWAS.out.2.2 (by
                            obtain ⟨hj, hgj⟩ := HGJ.out
                            exact HEA.out.left hj hgj.symm HM1.out.1 (HM1.out.2.1 rfl))
                          go_wp2
                          go_ret
                          exact ⟨by rw [← HW1.out]; first | rfl | simp, HT9.out⟩
                    · have f1' : ¬ (a : Int) ≤ (nn : Int) := by omega
                      have x7 := A7.cell
                      go_upto_region 30 with fail
                      have HS : Hid (∀ w', Below wr.heap.size wr w' → (Below wr.heap.size wr w' ∧ (∀ p, w'.cell? ⟨ga, p, none⟩ = (#[.int .i64 number, .int .u8 ((kiOf g).toNat : Int), .int .i64 (a : Int), .int .i64 (y : Int), .slice Ag (datOf g).length cg, .slice Am (mksOf g).length cm] : Array Value).toList[p]?))) := fun w' b => ⟨b, (A7.next b).cell⟩
                      refine wp_region_held_drew (S := fun w' => Below wr.heap.size wr w' ∧ (∀ p, w'.cell? ⟨ga, p, none⟩ = (#[.int .i64 number, .int .u8 ((kiOf g).toNat : Int), .int .i64 (a : Int), .int .i64 (y : Int), .slice Ag (datOf g).length cg, .slice Am (mksOf g).length cm] : Array Value).toList[p]?)) (by kernel_rfl) (HS.out _ (Ext.drew (Below.refl _ _))) (fun hS => ?_)
                      refine wpAnyH_take (i := 0) (oi := _) (v := ?_) rfl (by kernel_rfl) (by kernel_rfl) (by kernel_rfl) (fun _ _ _ h => h) (Or.inl ⟨by rfl, ?_⟩) hS ?_
                      rotate_left
                      · (intro w hSw; (try dsimp only at hSw); go_simp; (try with_reducible rfl))
                      rotate_left
                      simp only [Act.put, List.getElem_toArray, List.getElem_cons_zero, List.getElem_cons_succ, List.setIfInBounds_toArray, List.set_cons_zero, List.set_cons_succ]
                      refine wpAnyH_take (i := 1) (oi := _) (v := ?_) rfl (by kernel_rfl) (by kernel_rfl) (by kernel_rfl) (fun _ _ _ h => h) (Or.inl ⟨by rfl, ?_⟩) hS ?_
                      rotate_left
                      · (intro w hSw; (try dsimp only at hSw); go_simp; (try with_reducible rfl))
                      rotate_left
                      simp only [Act.put, List.getElem_toArray, List.getElem_cons_zero, List.getElem_cons_succ, List.setIfInBounds_toArray, List.set_cons_zero, List.set_cons_succ]
                      refine wpAnyH_take (i := 2) (oi := _) (v := ?_) rfl (by kernel_rfl) (by kernel_rfl) (by kernel_rfl) (fun _ _ _ h => h) (Or.inl ⟨by rfl, ?_⟩) hS ?_
                      rotate_left
                      · (intro w hSw; (try dsimp only at hSw); go_simp; (try with_reducible rfl))
                      rotate_left
                      simp only [Act.put, List.getElem_toArray, List.getElem_cons_zero, List.getElem_cons_succ, List.setIfInBounds_toArray, List.set_cons_zero, List.set_cons_succ]
                      refine wpAnyH_take (i := 3) (oi := _) (v := ?_) rfl (by kernel_rfl) (by kernel_rfl) (by kernel_rfl) (fun _ _ _ h => h) (Or.inl ⟨by rfl, ?_⟩) hS ?_
                      rotate_left
                      · (intro w hSw; (try dsimp only at hSw); go_simp; (try with_reducible rfl))
                      rotate_left
                      simp only [Act.put, List.getElem_toArray, List.getElem_cons_zero, List.getElem_cons_succ, List.setIfInBounds_toArray, List.set_cons_zero, List.set_cons_succ]
                      refine wpAnyH_take (i := 4) (oi := _) (v := ?_) rfl (by kernel_rfl) (by kernel_rfl) (by kernel_rfl) (fun _ _ _ h => h) (Or.inl ⟨by rfl, ?_⟩) hS ?_
                      rotate_left
                      · (intro w hSw; (try dsimp only at hSw); go_simp; (try with_reducible rfl))
                      rotate_left
                      simp only [Act.put, List.getElem_toArray, List.getElem_cons_zero, List.getElem_cons_succ, List.setIfInBounds_toArray, List.set_cons_zero, List.set_cons_succ]
                      refine wpAnyH_take (i := 5) (oi := _) (v := ?_) rfl (by kernel_rfl) (by kernel_rfl) (by kernel_rfl) (fun _ _ _ h => h) (Or.inr ⟨by rfl, ?_⟩) hS ?_
                      rotate_left
                      · rfl
                      rotate_left
                      simp only [Act.put, List.getElem_toArray, List.getElem_cons_zero, List.getElem_cons_succ, List.setIfInBounds_toArray, List.set_cons_zero, List.set_cons_succ]
                      refine wpAnyH_take (i := 6) (oi := _) (v := ?_) rfl (by kernel_rfl) (by kernel_rfl) (by kernel_rfl) (fun _ _ _ h => h) (Or.inr ⟨by rfl, ?_⟩) hS ?_
                      rotate_left
                      · rfl
                      rotate_left
                      simp only [Act.put, List.getElem_toArray, List.getElem_cons_zero, List.getElem_cons_succ, List.setIfInBounds_toArray, List.set_cons_zero, List.set_cons_succ]
                      refine wpAnyH_take (i := 7) (oi := _) (v := ?_) rfl (by kernel_rfl) (by kernel_rfl) (by kernel_rfl) (fun _ _ _ h => h) (Or.inr ⟨by rfl, ?_⟩) hS ?_
                      rotate_left
                      · rfl
                      rotate_left
                      simp only [Act.put, List.getElem_toArray, List.getElem_cons_zero, List.getElem_cons_succ, List.setIfInBounds_toArray, List.set_cons_zero, List.set_cons_succ]
                      refine wpAnyH_take (i := 8) (oi := _) (v := ?_) rfl (by kernel_rfl) (by kernel_rfl) (by kernel_rfl) (fun _ _ _ h => h) (Or.inr ⟨by rfl, ?_⟩) hS ?_
                      rotate_left
                      · rfl
                      rotate_left
                      simp only [Act.put, List.getElem_toArray, List.getElem_cons_zero, List.getElem_cons_succ, List.setIfInBounds_toArray, List.set_cons_zero, List.set_cons_succ]
                      refine wpAnyH_take (i := 9) (oi := _) (v := ?_) rfl (by kernel_rfl) (by kernel_rfl) (by kernel_rfl) (fun _ _ _ h => h) (Or.inr ⟨by rfl, ?_⟩) hS ?_
                      rotate_left
                      · rfl
                      rotate_left
                      simp only [Act.put, List.getElem_toArray, List.getElem_cons_zero, List.getElem_cons_succ, List.setIfInBounds_toArray, List.set_cons_zero, List.set_cons_succ]
                      refine wpAnyH_take (i := 10) (oi := _) (v := ?_) rfl (by kernel_rfl) (by kernel_rfl) (by kernel_rfl) (fun _ _ _ h => h) (Or.inr ⟨by rfl, ?_⟩) hS ?_
                      rotate_left
                      · rfl
                      rotate_left
                      simp only [Act.put, List.getElem_toArray, List.getElem_cons_zero, List.getElem_cons_succ, List.setIfInBounds_toArray, List.set_cons_zero, List.set_cons_succ]
                      refine wpAnyH_take (i := 11) (oi := _) (v := ?_) rfl (by kernel_rfl) (by kernel_rfl) (by kernel_rfl) (fun _ _ _ h => h) (Or.inr ⟨by rfl, ?_⟩) hS ?_
                      rotate_left
                      · rfl
                      rotate_left
                      simp only [Act.put, List.getElem_toArray, List.getElem_cons_zero, List.getElem_cons_succ, List.setIfInBounds_toArray, List.set_cons_zero, List.set_cons_succ]
                      refine wpAnyH_take (i := 12) (oi := _) (v := ?_) rfl (by kernel_rfl) (by kernel_rfl) (by kernel_rfl) (fun _ _ _ h => h) (Or.inr ⟨by rfl, ?_⟩) hS ?_
                      rotate_left
                      · rfl
                      rotate_left
                      simp only [Act.put, List.getElem_toArray, List.getElem_cons_zero, List.getElem_cons_succ, List.setIfInBounds_toArray, List.set_cons_zero, List.set_cons_succ]
                      refine wpAnyH_take (i := 13) (oi := _) (v := ?_) rfl (by kernel_rfl) (by kernel_rfl) (by kernel_rfl) (fun _ _ _ h => h) (Or.inr ⟨by rfl, ?_⟩) hS ?_
                      rotate_left
                      · rfl
                      rotate_left
                      simp only [Act.put, List.getElem_toArray, List.getElem_cons_zero, List.getElem_cons_succ, List.setIfInBounds_toArray, List.set_cons_zero, List.set_cons_succ]
                      refine wpAnyH_take (i := 14) (oi := _) (v := ?_) rfl (by kernel_rfl) (by kernel_rfl) (by kernel_rfl) (fun _ _ _ h => h) (Or.inr ⟨by rfl, ?_⟩) hS ?_
                      rotate_left
                      · rfl
                      rotate_left
                      simp only [Act.put, List.getElem_toArray, List.getElem_cons_zero, List.getElem_cons_succ, List.setIfInBounds_toArray, List.set_cons_zero, List.set_cons_succ]
                      refine wpAnyH_take (i := 15) (oi := _) (v := ?_) rfl (by kernel_rfl) (by kernel_rfl) (by kernel_rfl) (fun _ _ _ h => h) (Or.inr ⟨by rfl, ?_⟩) hS ?_
                      rotate_left
                      · rfl
                      rotate_left
                      simp only [Act.put, List.getElem_toArray, List.getElem_cons_zero, List.getElem_cons_succ, List.setIfInBounds_toArray, List.set_cons_zero, List.set_cons_succ]
                      refine wpAnyH_take (i := 16) (oi := _) (v := ?_) rfl (by kernel_rfl) (by kernel_rfl) (by kernel_rfl) (fun _ _ _ h => h) (Or.inr ⟨by rfl, ?_⟩) hS ?_
                      rotate_left
                      · rfl
                      rotate_left
                      simp only [Act.put, List.getElem_toArray, List.getElem_cons_zero, List.getElem_cons_succ, List.setIfInBounds_toArray, List.set_cons_zero, List.set_cons_succ]
                      refine wpAnyH_take (i := 17) (oi := _) (v := ?_) rfl (by kernel_rfl) (by kernel_rfl) (by kernel_rfl) (fun _ _ _ h => h) (Or.inr ⟨by rfl, ?_⟩) hS ?_
                      rotate_left
                      · rfl
                      rotate_left
                      simp only [Act.put, List.getElem_toArray, List.getElem_cons_zero, List.getElem_cons_succ, List.setIfInBounds_toArray, List.set_cons_zero, List.set_cons_succ]
                      refine wpAnyH_take (i := 18) (oi := _) (v := ?_) rfl (by kernel_rfl) (by kernel_rfl) (by kernel_rfl) (fun _ _ _ h => h) (Or.inl ⟨by rfl, ?_⟩) hS ?_
                      rotate_left
                      · (intro w hSw; (try dsimp only at hSw); go_simp; (try with_reducible rfl))
                      rotate_left
                      simp only [Act.put, List.getElem_toArray, List.getElem_cons_zero, List.getElem_cons_succ, List.setIfInBounds_toArray, List.set_cons_zero, List.set_cons_succ]
                      refine wpAnyH_done (by kernel_rfl) ?_ _
                      have bH := hS.1
                      clear hS HS
                      have HT8 := Lib.hid (Ext.trans T7.out bH)
                      have C7' := C7.drew
                      have P7' := P7.drew
                      clear C7 P7 bH
                      have C7 := C7'
                      have P7 := P7'
                      clear C7' P7' T7
                      have T7 := HT8
                      generalize wr.drew = wr at *
                      have c7 := C7.cell
                      have p7 := P7.cell
                      go_wp2_with fail
                      refine (smay_any S ⟨id, m, c, r, l, h⟩ ys gs _ ca (some ⟨bA, oA, none⟩) cb (nn : Int) D dc ds wr (HY.out.below T7.out) (HG.out.below T7.out) (HD.out.below T7.out).bytes_bs).mono ?_
                      rintro e w9 ⟨⟨was, v3, rfl, hmay2⟩, b9⟩
                      have HWAS : Hid (v3 = 0 ∧ (was = true ↔ LeftP ys gs nn ds)) := by
                        rcases hmay2 with h1 | h1 | h1 | h1
                        · exact absurd HOK.out h1.1
                        · exact absurd ⟨by omega, by have := HM1.out.1; omega⟩ h1.2.1
                        · exact absurd HDL.out h1.2.2.1
                        · exact ⟨h1.2.2.2.2, by have h2 := h1.2.2.2.1; rwa [Int.toNat_natCast] at h2⟩
                      have HT9 := Lib.hid (Ext.trans T7.out b9)
                      obtain ⟨rfl, _⟩ := HWAS.out
                      clear hmay2 c7 p7 b9
                      cases is with
                      | false =>
                        go_wp2
                        go_ret
                        exact ⟨by first | rfl | simp, HT9.out⟩
                      | true =>
                        have HW1 : Hid (was = true) := HWAS.out.2.2 (by
                          obtain ⟨hj, hgj⟩ := HGJ.out
                          exact HEA.out.left hj hgj.symm HM1.out.1 (HM1.out.2.1 rfl))
                        go_wp2
                        go_ret
                        exact ⟨by rw [← HW1.out]; first | rfl | simp, HT9.out⟩
                  · rcases Bool.eq_false_or_eq_true (((kiOf g).toNat : Int) == 4) with e4 | e4
                    · have HK4 : Hid (((kiOf g).toNat : Int) = 4) := by show _ = _; simpa using e4
                      have HML : Hid ((mksOf g).length = ys.length) := by
                        rcases HEA.out.marks with h1 | h1
                        · exact h1.2
                        · exact absurd HK4.out h1.1
                      have hnm : nn < (mksOf g).length := by rw [HML.out]; exact HM1.out.1
                      obtain ⟨mb, mo, rfl, m1, _⟩ := mark_at (HRM.out.below (Ext.trans HB6.out b7)) hnm
                      have HMG : Hid ((mksOf g).getD nn 0 = (mksOf g)[nn]'hnm) := by show _ = _; rw [List.getD_eq_getElem?_getD, List.getElem?_eq_getElem hnm]; rfl
                      obtain ⟨yb, yo, A2, c2, rfl, m2, m3⟩ := may_at (HY.out.below T7.out) HM1.out.1
                      obtain ⟨r1, r2, r3⟩ := HOK.out.row HM1.out.1
                      obtain ⟨rb, ro, A3, c3, rfl, m4, m5⟩ := val_at m3 (k := (ys[nn]'HM1.out.1).length - 1) (by omega)
                      have HFL : Hid ((mksOf g)[nn]'hnm = ((ys[nn]'HM1.out.1).length : Int) - 1 → (LeftP zs hs nn ds ↔ (true ∈ hs.map (hitB nn ds) ∨ ds = (ys[nn]'HM1.out.1)[(ys[nn]'HM1.out.1).length - 1]'(by omega)))) := fun hm => HEA.out.flush HK4.out HM1.out.1 (HMG.out.trans hm) (by omega)
                      generalize (ys[nn]'HM1.out.1)[(ys[nn]'HM1.out.1).length - 1]'(by omega) = lv at *
                      have HM5 := Lib.hid m5
                      clear m3 m5 r3
                      generalize (ys[nn]'HM1.out.1).length = L at *
                      have HL := Lib.hid (And.intro r1 r2)
                      generalize (mksOf g)[nn]'hnm = mk at *
                      have w9 : IntKind.i64.wrap ((L : Int) - 1) = ((L - 1 : Nat) : Int) := by rw [i64_fit (by omega)]; omega
                      have hL1 : L - 1 < L := by omega
                      have hny : nn < ys.length := HM1.out.1
                      clear r1 r2
                      have x7 := A7.cell
                      go_upto_region 30 with fail
                      have HS : Hid (∀ w', Below wr.heap.size wr w' → (Below wr.heap.size wr w' ∧ (∀ p, w'.cell? ⟨ga, p, none⟩ = (#[.int .i64 number, .int .u8 ((kiOf g).toNat : Int), .int .i64 (a : Int), .int .i64 (y : Int), .slice Ag (datOf g).length cg, .slice (some ⟨mb, mo, none⟩) (mksOf g).length cm] : Array Value).toList[p]?) ∧ (∀ p, w'.cell? ⟨w.heap.size + 1, p, none⟩ = (#[.slice (some ⟨yb, yo, none⟩) ys.length ca, .slice (some ⟨bA, oA, none⟩) gs.length cb] : Array Value).toList[p]?) ∧ w'.cell? ⟨mb, mo + nn, none⟩ = some (.int .i64 mk) ∧ w'.cell? ⟨yb, yo + nn, none⟩ = some (.slice (some ⟨rb, ro, none⟩) L c2))) := fun w' b => ⟨b, (A7.next b).cell, (P7.next b).cell, (b.cell (block_lt_of_cell m1)).trans m1, (b.cell (block_lt_of_cell m2)).trans m2⟩
                      refine wp_region_held_drew (S := fun w' => Below wr.heap.size wr w' ∧ (∀ p, w'.cell? ⟨ga, p, none⟩ = (#[.int .i64 number, .int .u8 ((kiOf g).toNat : Int), .int .i64 (a : Int), .int .i64 (y : Int), .slice Ag (datOf g).length cg, .slice (some ⟨mb, mo, none⟩) (mksOf g).length cm] : Array Value).toList[p]?) ∧ (∀ p, w'.cell? ⟨w.heap.size + 1, p, none⟩ = (#[.slice (some ⟨yb, yo, none⟩) ys.length ca, .slice (some ⟨bA, oA, none⟩) gs.length cb] : Array Value).toList[p]?) ∧ w'.cell? ⟨mb, mo + nn, none⟩ = some (.int .i64 mk) ∧ w'.cell? ⟨yb, yo + nn, none⟩ = some (.slice (some ⟨rb, ro, none⟩) L c2)) (by kernel_rfl) (HS.out _ (Ext.drew (Below.refl _ _))) (fun hS => ?_)
                      refine wpAnyH_take (i := 0) (oi := _) (v := ?_) rfl (by kernel_rfl) (by kernel_rfl) (by kernel_rfl) (fun _ _ _ h => h) (Or.inl ⟨by rfl, ?_⟩) hS ?_
                      rotate_left
                      · (intro w hSw; (try dsimp only at hSw); go_simp; (try with_reducible rfl))
                      rotate_left
                      simp only [Act.put, List.getElem_toArray, List.getElem_cons_zero, List.getElem_cons_succ, List.setIfInBounds_toArray, List.set_cons_zero, List.set_cons_succ]
                      refine wpAnyH_take (i := 1) (oi := _) (v := ?_) rfl (by kernel_rfl) (by kernel_rfl) (by kernel_rfl) (fun _ _ _ h => h) (Or.inl ⟨by rfl, ?_⟩) hS ?_
                      rotate_left
                      · (intro w hSw; (try dsimp only at hSw); go_simp; (try with_reducible rfl))
                      rotate_left
                      simp only [Act.put, List.getElem_toArray, List.getElem_cons_zero, List.getElem_cons_succ, List.setIfInBounds_toArray, List.set_cons_zero, List.set_cons_succ]
                      refine wpAnyH_take (i := 2) (oi := _) (v := ?_) rfl (by kernel_rfl) (by kernel_rfl) (by kernel_rfl) (fun _ _ _ h => h) (Or.inl ⟨by rfl, ?_⟩) hS ?_
                      rotate_left
                      · (intro w hSw; (try dsimp only at hSw); go_simp; (try with_reducible rfl))
                      rotate_left
                      simp only [Act.put, List.getElem_toArray, List.getElem_cons_zero, List.getElem_cons_succ, List.setIfInBounds_toArray, List.set_cons_zero, List.set_cons_succ]
                      refine wpAnyH_take (i := 3) (oi := _) (v := ?_) rfl (by kernel_rfl) (by kernel_rfl) (by kernel_rfl) (fun _ _ _ h => h) (Or.inl ⟨by rfl, ?_⟩) hS ?_
                      rotate_left
                      · (intro w hSw; (try dsimp only at hSw); go_simp; (try with_reducible rfl))
                      rotate_left
                      simp only [Act.put, List.getElem_toArray, List.getElem_cons_zero, List.getElem_cons_succ, List.setIfInBounds_toArray, List.set_cons_zero, List.set_cons_succ]
                      refine wpAnyH_take (i := 4) (oi := _) (v := ?_) rfl (by kernel_rfl) (by kernel_rfl) (by kernel_rfl) (fun _ _ _ h => h) (Or.inl ⟨by rfl, ?_⟩) hS ?_
                      rotate_left
                      · (intro w hSw; (try dsimp only at hSw); go_simp; (try with_reducible rfl))
                      rotate_left
                      simp only [Act.put, List.getElem_toArray, List.getElem_cons_zero, List.getElem_cons_succ, List.setIfInBounds_toArray, List.set_cons_zero, List.set_cons_succ]
                      refine wpAnyH_take (i := 5) (oi := _) (v := ?_) rfl (by kernel_rfl) (by kernel_rfl) (by kernel_rfl) (fun _ _ _ h => h) (Or.inl ⟨by rfl, ?_⟩) hS ?_
                      rotate_left
                      · (intro w hSw; (try dsimp only at hSw); go_simp; (try with_reducible rfl))
                      rotate_left
                      simp only [Act.put, List.getElem_toArray, List.getElem_cons_zero, List.getElem_cons_succ, List.setIfInBounds_toArray, List.set_cons_zero, List.set_cons_succ]
                      refine wpAnyH_take (i := 6) (oi := _) (v := ?_) rfl (by kernel_rfl) (by kernel_rfl) (by kernel_rfl) (fun _ _ _ h => h) (Or.inl ⟨by rfl, ?_⟩) hS ?_
                      rotate_left
                      · (intro w hSw; (try dsimp only at hSw); go_simp; (try with_reducible rfl))
                      rotate_left
                      simp only [Act.put, List.getElem_toArray, List.getElem_cons_zero, List.getElem_cons_succ, List.setIfInBounds_toArray, List.set_cons_zero, List.set_cons_succ]
                      refine wpAnyH_take (i := 7) (oi := _) (v := ?_) rfl (by kernel_rfl) (by kernel_rfl) (by kernel_rfl) (fun _ _ _ h => h) (Or.inl ⟨by rfl, ?_⟩) hS ?_
                      rotate_left
                      · (intro w hSw; (try dsimp only at hSw); go_simp; (try with_reducible rfl))
                      rotate_left
                      simp only [Act.put, List.getElem_toArray, List.getElem_cons_zero, List.getElem_cons_succ, List.setIfInBounds_toArray, List.set_cons_zero, List.set_cons_succ]
                      refine wpAnyH_take (i := 8) (oi := _) (v := ?_) rfl (by kernel_rfl) (by kernel_rfl) (by kernel_rfl) (fun _ _ _ h => h) (Or.inl ⟨by rfl, ?_⟩) hS ?_
                      rotate_left
                      · (intro w hSw; (try dsimp only at hSw); go_simp; (try with_reducible rfl))
                      rotate_left
                      simp only [Act.put, List.getElem_toArray, List.getElem_cons_zero, List.getElem_cons_succ, List.setIfInBounds_toArray, List.set_cons_zero, List.set_cons_succ]
                      refine wpAnyH_take (i := 9) (oi := _) (v := ?_) rfl (by kernel_rfl) (by kernel_rfl) (by kernel_rfl) (fun _ _ _ h => h) (Or.inl ⟨by rfl, ?_⟩) hS ?_
                      rotate_left
                      · (intro w hSw; (try dsimp only at hSw); go_simp; (try with_reducible rfl))
                      rotate_left
                      simp only [Act.put, List.getElem_toArray, List.getElem_cons_zero, List.getElem_cons_succ, List.setIfInBounds_toArray, List.set_cons_zero, List.set_cons_succ]
                      refine wpAnyH_take (i := 10) (oi := _) (v := ?_) rfl (by kernel_rfl) (by kernel_rfl) (by kernel_rfl) (fun _ _ _ h => h) (Or.inl ⟨by rfl, ?_⟩) hS ?_
                      rotate_left
                      · (intro w hSw; (try dsimp only at hSw); go_simp; (try with_reducible rfl))
                      rotate_left
                      simp only [Act.put, List.getElem_toArray, List.getElem_cons_zero, List.getElem_cons_succ, List.setIfInBounds_toArray, List.set_cons_zero, List.set_cons_succ]
                      refine wpAnyH_take (i := 11) (oi := _) (v := ?_) rfl (by kernel_rfl) (by kernel_rfl) (by kernel_rfl) (fun _ _ _ h => h) (Or.inl ⟨by rfl, ?_⟩) hS ?_
                      rotate_left
                      · (intro w hSw; (try dsimp only at hSw); go_simp; (try with_reducible rfl))
                      rotate_left
                      simp only [Act.put, List.getElem_toArray, List.getElem_cons_zero, List.getElem_cons_succ, List.setIfInBounds_toArray, List.set_cons_zero, List.set_cons_succ]
                      refine wpAnyH_take (i := 12) (oi := _) (v := ?_) rfl (by kernel_rfl) (by kernel_rfl) (by kernel_rfl) (fun _ _ _ h => h) (Or.inl ⟨by rfl, ?_⟩) hS ?_
                      rotate_left
                      · (intro w hSw; (try dsimp only at hSw); go_simp; (try with_reducible rfl))
                      rotate_left
                      simp only [Act.put, List.getElem_toArray, List.getElem_cons_zero, List.getElem_cons_succ, List.setIfInBounds_toArray, List.set_cons_zero, List.set_cons_succ]
                      refine wpAnyH_take (i := 13) (oi := _) (v := ?_) rfl (by kernel_rfl) (by kernel_rfl) (by kernel_rfl) (fun _ _ _ h => h) (Or.inl ⟨by rfl, ?_⟩) hS ?_
                      rotate_left
                      · (intro w hSw; (try dsimp only at hSw); go_simp; (try with_reducible rfl))
                      rotate_left
                      simp only [Act.put, List.getElem_toArray, List.getElem_cons_zero, List.getElem_cons_succ, List.setIfInBounds_toArray, List.set_cons_zero, List.set_cons_succ]
                      refine wpAnyH_take (i := 14) (oi := _) (v := ?_) rfl (by kernel_rfl) (by kernel_rfl) (by kernel_rfl) (fun _ _ _ h => h) (Or.inl ⟨by rfl, ?_⟩) hS ?_
                      rotate_left
                      · (intro w hSw; (try dsimp only at hSw); go_simp; (try with_reducible rfl))
                      rotate_left
                      simp only [Act.put, List.getElem_toArray, List.getElem_cons_zero, List.getElem_cons_succ, List.setIfInBounds_toArray, List.set_cons_zero, List.set_cons_succ]
                      refine wpAnyH_take (i := 15) (oi := _) (v := ?_) rfl (by kernel_rfl) (by kernel_rfl) (by kernel_rfl) (fun _ _ _ h => h) (Or.inl ⟨by rfl, ?_⟩) hS ?_
                      rotate_left
                      · (intro w hSw; (try dsimp only at hSw); go_simp; (try with_reducible rfl))
                      rotate_left
                      simp only [Act.put, List.getElem_toArray, List.getElem_cons_zero, List.getElem_cons_succ, List.setIfInBounds_toArray, List.set_cons_zero, List.set_cons_succ]
                      refine wpAnyH_take (i := 16) (oi := _) (v := ?_) rfl (by kernel_rfl) (by kernel_rfl) (by kernel_rfl) (fun _ _ _ h => h) (Or.inl ⟨by rfl, ?_⟩) hS ?_
                      rotate_left
                      · (intro w hSw; (try dsimp only at hSw); go_simp; (try with_reducible rfl))
                      rotate_left
                      simp only [Act.put, List.getElem_toArray, List.getElem_cons_zero, List.getElem_cons_succ, List.setIfInBounds_toArray, List.set_cons_zero, List.set_cons_succ]
                      refine wpAnyH_take (i := 17) (oi := _) (v := ?_) rfl (by kernel_rfl) (by kernel_rfl) (by kernel_rfl) (fun _ _ _ h => h) (Or.inl ⟨by rfl, ?_⟩) hS ?_
                      rotate_left
                      · (intro w hSw; (try dsimp only at hSw); go_simp; (try with_reducible rfl))
                      rotate_left
                      simp only [Act.put, List.getElem_toArray, List.getElem_cons_zero, List.getElem_cons_succ, List.setIfInBounds_toArray, List.set_cons_zero, List.set_cons_succ]
                      refine wpAnyH_take (i := 18) (oi := _) (v := ?_) rfl (by kernel_rfl) (by kernel_rfl) (by kernel_rfl) (fun _ _ _ h => h) (Or.inl ⟨by rfl, ?_⟩) hS ?_
                      rotate_left
                      · (intro w hSw; (try dsimp only at hSw); go_simp; (try with_reducible rfl))
                      rotate_left
                      simp only [Act.put, List.getElem_toArray, List.getElem_cons_zero, List.getElem_cons_succ, List.setIfInBounds_toArray, List.set_cons_zero, List.set_cons_succ]
                      refine wpAnyH_done (by kernel_rfl) ?_ _
                      have bH := hS.1
                      clear hS HS
                      have HT8 := Lib.hid (Ext.trans T7.out bH)
                      have C7' := C7.drew
                      have P7' := P7.drew
                      have m2' : wr.drew.cell? ⟨yb, yo + nn, none⟩ = some (.slice (some ⟨rb, ro, none⟩) L c2) := m2
                      have m4' : wr.drew.cell? ⟨rb, ro + (L - 1), none⟩ = some (.slice A3 lv.length c3) := m4
                      have HM5' := Lib.hid (HM5.out.below (Ext.drew (Below.refl wr.heap.size wr)))
                      clear C7 P7 bH m1 m2 m4 HM5 A7 x7
                      have C7 := C7'
                      have P7 := P7'
                      have m2 := m2'
                      have m4 := m4'
                      have HM5 := HM5'
                      clear C7' P7' T7 m2' m4' HM5'
                      have T7 := HT8
                      clear HT8 hx7 HX6
                      generalize wr.drew = wr at *
                      rcases Bool.eq_false_or_eq_true (mk == ((L - 1 : Nat) : Int)) with e5 | e5
                      · have hmk : mk = (L : Int) - 1 := by
                          have h1 : mk = ((L - 1 : Nat) : Int) := by simpa using e5
                          have := HL.out
                          omega
                        have HFV : Hid (is = true ↔ (gb = true ∨ ds = lv)) := HM1.out.2.trans ((HFL.out hmk).trans (or_congr HGB.out.symm Iff.rfl))
                        clear hmk
                        go_upto_region 31 with fail
                        have HS : Hid (∀ w', Below wr.heap.size wr w' → (Below wr.heap.size wr w' ∧ (∀ p, w'.cell? ⟨w.heap.size + 1, p, none⟩ = (#[.slice (some ⟨yb, yo, none⟩) ys.length ca, .slice (some ⟨bA, oA, none⟩) gs.length cb] : Array Value).toList[p]?) ∧ w'.cell? ⟨yb, yo + nn, none⟩ = some (.slice (some ⟨rb, ro, none⟩) L c2) ∧ w'.cell? ⟨rb, ro + (L - 1), none⟩ = some (.slice A3 lv.length c3) ∧ Bs w' A3 lv.length lv ∧ Bs w' D ds.length ds)) := fun w' b => ⟨b, (P7.next b).cell, (b.cell (block_lt_of_cell m2)).trans m2, (b.cell (block_lt_of_cell m4)).trans m4, HM5.out.bytes_bs.below b, (HD.out.below T7.out).bytes_bs.below b⟩
                        refine wp_region_held_drew (S := fun w' => Below wr.heap.size wr w' ∧ (∀ p, w'.cell? ⟨w.heap.size + 1, p, none⟩ = (#[.slice (some ⟨yb, yo, none⟩) ys.length ca, .slice (some ⟨bA, oA, none⟩) gs.length cb] : Array Value).toList[p]?) ∧ w'.cell? ⟨yb, yo + nn, none⟩ = some (.slice (some ⟨rb, ro, none⟩) L c2) ∧ w'.cell? ⟨rb, ro + (L - 1), none⟩ = some (.slice A3 lv.length c3) ∧ Bs w' A3 lv.length lv ∧ Bs w' D ds.length ds) (by kernel_rfl) (HS.out _ (Ext.drew (Below.refl _ _))) (fun hS => ?_)
                        cases gb with
                        | true =>
                          refine wpAnyH_take (i := 0) (oi := _) (v := ?_) rfl (by kernel_rfl) (by kernel_rfl) (by kernel_rfl) (fun _ _ _ h => h) (Or.inl ⟨by rfl, ?_⟩) hS ?_
                          rotate_left
                          · (intro w hSw; (try dsimp only at hSw); go_simp; (try with_reducible rfl))
                          rotate_left
                          simp only [Act.put, List.getElem_toArray, List.getElem_cons_zero, List.getElem_cons_succ, List.setIfInBounds_toArray, List.set_cons_zero, List.set_cons_succ]
                          refine wpAnyH_take (i := 1) (oi := _) (v := ?_) rfl (by kernel_rfl) (by kernel_rfl) (by kernel_rfl) (fun _ _ _ h => h) (Or.inl ⟨by rfl, ?_⟩) hS ?_
                          rotate_left
                          · (intro w hSw; (try dsimp only at hSw); go_simp; (try with_reducible rfl))
                          rotate_left
                          simp only [Act.put, List.getElem_toArray, List.getElem_cons_zero, List.getElem_cons_succ, List.setIfInBounds_toArray, List.set_cons_zero, List.set_cons_succ]
                          refine wpAnyH_take (i := 2) (oi := _) (v := ?_) rfl (by kernel_rfl) (by kernel_rfl) (by kernel_rfl) (fun _ _ _ h => h) (Or.inl ⟨by rfl, ?_⟩) hS ?_
                          rotate_left
                          · (intro w hSw; (try dsimp only at hSw); go_simp; (try with_reducible rfl))
                          rotate_left
                          simp only [Act.put, List.getElem_toArray, List.getElem_cons_zero, List.getElem_cons_succ, List.setIfInBounds_toArray, List.set_cons_zero, List.set_cons_succ]
                          refine wpAnyH_take (i := 3) (oi := _) (v := ?_) rfl (by kernel_rfl) (by kernel_rfl) (by kernel_rfl) (fun _ _ _ h => h) (Or.inl ⟨by rfl, ?_⟩) hS ?_
                          rotate_left
                          · (intro w hSw; (try dsimp only at hSw); go_simp; (try with_reducible rfl))
                          rotate_left
                          simp only [Act.put, List.getElem_toArray, List.getElem_cons_zero, List.getElem_cons_succ, List.setIfInBounds_toArray, List.set_cons_zero, List.set_cons_succ]
                          refine wpAnyH_take (i := 4) (oi := _) (v := ?_) rfl (by kernel_rfl) (by kernel_rfl) (by kernel_rfl) (fun _ _ _ h => h) (Or.inl ⟨by rfl, ?_⟩) hS ?_
                          rotate_left
                          · (intro w hSw; (try dsimp only at hSw); go_simp; (try with_reducible rfl))
                          rotate_left
                          simp only [Act.put, List.getElem_toArray, List.getElem_cons_zero, List.getElem_cons_succ, List.setIfInBounds_toArray, List.set_cons_zero, List.set_cons_succ]
                          refine wpAnyH_take (i := 5) (oi := _) (v := ?_) rfl (by kernel_rfl) (by kernel_rfl) (by kernel_rfl) (fun _ _ _ h => h) (Or.inr ⟨by rfl, ?_⟩) hS ?_
                          rotate_left
                          · rfl
                          rotate_left
                          simp only [Act.put, List.getElem_toArray, List.getElem_cons_zero, List.getElem_cons_succ, List.setIfInBounds_toArray, List.set_cons_zero, List.set_cons_succ]
                          refine wpAnyH_take (i := 6) (oi := _) (v := ?_) rfl (by kernel_rfl) (by kernel_rfl) (by kernel_rfl) (fun _ _ _ h => h) (Or.inr ⟨by rfl, ?_⟩) hS ?_
                          rotate_left
                          · rfl
                          rotate_left
                          simp only [Act.put, List.getElem_toArray, List.getElem_cons_zero, List.getElem_cons_succ, List.setIfInBounds_toArray, List.set_cons_zero, List.set_cons_succ]
                          refine wpAnyH_take (i := 7) (oi := _) (v := ?_) rfl (by kernel_rfl) (by kernel_rfl) (by kernel_rfl) (fun _ _ _ h => h) (Or.inr ⟨by rfl, ?_⟩) hS ?_
                          rotate_left
                          · rfl
                          rotate_left
                          simp only [Act.put, List.getElem_toArray, List.getElem_cons_zero, List.getElem_cons_succ, List.setIfInBounds_toArray, List.set_cons_zero, List.set_cons_succ]
                          refine wpAnyH_take (i := 8) (oi := _) (v := ?_) rfl (by kernel_rfl) (by kernel_rfl) (by kernel_rfl) (fun _ _ _ h => h) (Or.inr ⟨by rfl, ?_⟩) hS ?_
                          rotate_left
                          · rfl
                          rotate_left
                          simp only [Act.put, List.getElem_toArray, List.getElem_cons_zero, List.getElem_cons_succ, List.setIfInBounds_toArray, List.set_cons_zero, List.set_cons_succ]
                          refine wpAnyH_take (i := 9) (oi := _) (v := ?_) rfl (by kernel_rfl) (by kernel_rfl) (by kernel_rfl) (fun _ _ _ h => h) (Or.inr ⟨by rfl, ?_⟩) hS ?_
                          rotate_left
                          · rfl
                          rotate_left
                          simp only [Act.put, List.getElem_toArray, List.getElem_cons_zero, List.getElem_cons_succ, List.setIfInBounds_toArray, List.set_cons_zero, List.set_cons_succ]
                          refine wpAnyH_take (i := 10) (oi := _) (v := ?_) rfl (by kernel_rfl) (by kernel_rfl) (by kernel_rfl) (fun _ _ _ h => h) (Or.inr ⟨by rfl, ?_⟩) hS ?_
                          rotate_left
                          · rfl
                          rotate_left
                          simp only [Act.put, List.getElem_toArray, List.getElem_cons_zero, List.getElem_cons_succ, List.setIfInBounds_toArray, List.set_cons_zero, List.set_cons_succ]
                          refine wpAnyH_take (i := 11) (oi := _) (v := ?_) rfl (by kernel_rfl) (by kernel_rfl) (by kernel_rfl) (fun _ _ _ h => h) (Or.inr ⟨by rfl, ?_⟩) hS ?_
                          rotate_left
                          · rfl
                          rotate_left
                          simp only [Act.put, List.getElem_toArray, List.getElem_cons_zero, List.getElem_cons_succ, List.setIfInBounds_toArray, List.set_cons_zero, List.set_cons_succ]
                          refine wpAnyH_take (i := 12) (oi := _) (v := ?_) rfl (by kernel_rfl) (by kernel_rfl) (by kernel_rfl) (fun _ _ _ h => h) (Or.inr ⟨by rfl, ?_⟩) hS ?_
                          rotate_left
                          · rfl
                          rotate_left
                          simp only [Act.put, List.getElem_toArray, List.getElem_cons_zero, List.getElem_cons_succ, List.setIfInBounds_toArray, List.set_cons_zero, List.set_cons_succ]
                          refine wpAnyH_take (i := 13) (oi := _) (v := ?_) rfl (by kernel_rfl) (by kernel_rfl) (by kernel_rfl) (fun _ _ _ h => h) (Or.inr ⟨by rfl, ?_⟩) hS ?_
                          rotate_left
                          · rfl
                          rotate_left
                          simp only [Act.put, List.getElem_toArray, List.getElem_cons_zero, List.getElem_cons_succ, List.setIfInBounds_toArray, List.set_cons_zero, List.set_cons_succ]
                          refine wpAnyH_take (i := 14) (oi := _) (v := ?_) rfl (by kernel_rfl) (by kernel_rfl) (by kernel_rfl) (fun _ _ _ h => h) (Or.inr ⟨by rfl, ?_⟩) hS ?_
                          rotate_left
                          · rfl
                          rotate_left
                          simp only [Act.put, List.getElem_toArray, List.getElem_cons_zero, List.getElem_cons_succ, List.setIfInBounds_toArray, List.set_cons_zero, List.set_cons_succ]
                          refine wpAnyH_take (i := 15) (oi := _) (v := ?_) rfl (by kernel_rfl) (by kernel_rfl) (by kernel_rfl) (fun _ _ _ h => h) (Or.inr ⟨by rfl, ?_⟩) hS ?_
                          rotate_left
                          · rfl
                          rotate_left
                          simp only [Act.put, List.getElem_toArray, List.getElem_cons_zero, List.getElem_cons_succ, List.setIfInBounds_toArray, List.set_cons_zero, List.set_cons_succ]
                          refine wpAnyH_take (i := 16) (oi := _) (v := ?_) rfl (by kernel_rfl) (by kernel_rfl) (by kernel_rfl) (fun _ _ _ h => h) (Or.inr ⟨by rfl, ?_⟩) hS ?_
                          rotate_left
                          · rfl
                          rotate_left
                          simp only [Act.put, List.getElem_toArray, List.getElem_cons_zero, List.getElem_cons_succ, List.setIfInBounds_toArray, List.set_cons_zero, List.set_cons_succ]
                          refine wpAnyH_take (i := 17) (oi := _) (v := ?_) rfl (by kernel_rfl) (by kernel_rfl) (by kernel_rfl) (fun _ _ _ h => h) (Or.inr ⟨by rfl, ?_⟩) hS ?_
                          rotate_left
                          · rfl
                          rotate_left
                          simp only [Act.put, List.getElem_toArray, List.getElem_cons_zero, List.getElem_cons_succ, List.setIfInBounds_toArray, List.set_cons_zero, List.set_cons_succ]
                          refine wpAnyH_take (i := 18) (oi := _) (v := ?_) rfl (by kernel_rfl) (by kernel_rfl) (by kernel_rfl) (fun _ _ _ h => h) (Or.inr ⟨by rfl, ?_⟩) hS ?_
                          rotate_left
                          · rfl
                          rotate_left
                          simp only [Act.put, List.getElem_toArray, List.getElem_cons_zero, List.getElem_cons_succ, List.setIfInBounds_toArray, List.set_cons_zero, List.set_cons_succ]
                          refine wpAnyH_take (i := 19) (oi := _) (v := ?_) rfl (by kernel_rfl) (by kernel_rfl) (by kernel_rfl) (fun _ _ _ h => h) (Or.inr ⟨by rfl, ?_⟩) hS ?_
                          rotate_left
                          · rfl
                          rotate_left
                          simp only [Act.put, List.getElem_toArray, List.getElem_cons_zero, List.getElem_cons_succ, List.setIfInBounds_toArray, List.set_cons_zero, List.set_cons_succ]
                          refine wpAnyH_take (i := 20) (oi := _) (v := ?_) rfl (by kernel_rfl) (by kernel_rfl) (by kernel_rfl) (fun _ _ _ h => h) (Or.inr ⟨by rfl, ?_⟩) hS ?_
                          rotate_left
                          · rfl
                          rotate_left
                          simp only [Act.put, List.getElem_toArray, List.getElem_cons_zero, List.getElem_cons_succ, List.setIfInBounds_toArray, List.set_cons_zero, List.set_cons_succ]
                          refine wpAnyH_take (i := 21) (oi := _) (v := ?_) rfl (by kernel_rfl) (by kernel_rfl) (by kernel_rfl) (fun _ _ _ h => h) (Or.inr ⟨by rfl, ?_⟩) hS ?_
                          rotate_left
                          · rfl
                          rotate_left
                          simp only [Act.put, List.getElem_toArray, List.getElem_cons_zero, List.getElem_cons_succ, List.setIfInBounds_toArray, List.set_cons_zero, List.set_cons_succ]
                          refine wpAnyH_take (i := 22) (oi := _) (v := ?_) rfl (by kernel_rfl) (by kernel_rfl) (by kernel_rfl) (fun _ _ _ h => h) (Or.inr ⟨by rfl, ?_⟩) hS ?_
                          rotate_left
                          · rfl
                          rotate_left
                          simp only [Act.put, List.getElem_toArray, List.getElem_cons_zero, List.getElem_cons_succ, List.setIfInBounds_toArray, List.set_cons_zero, List.set_cons_succ]
                          refine wpAnyH_take (i := 23) (oi := _) (v := ?_) rfl (by kernel_rfl) (by kernel_rfl) (by kernel_rfl) (fun _ _ _ h => h) (Or.inl ⟨by rfl, ?_⟩) hS ?_
                          rotate_left
                          · (intro w hSw; (try dsimp only at hSw); go_simp; (try with_reducible rfl))
                          rotate_left
                          simp only [Act.put, List.getElem_toArray, List.getElem_cons_zero, List.getElem_cons_succ, List.setIfInBounds_toArray, List.set_cons_zero, List.set_cons_succ]
                          refine wpAnyH_take (i := 24) (oi := _) (v := ?_) rfl (by kernel_rfl) (by kernel_rfl) (by kernel_rfl) (fun _ _ _ h => h) (Or.inl ⟨by rfl, ?_⟩) hS ?_
                          rotate_left
                          · (intro w hSw; (try dsimp only at hSw); go_simp; (try with_reducible rfl))
                          rotate_left
                          simp only [Act.put, List.getElem_toArray, List.getElem_cons_zero, List.getElem_cons_succ, List.setIfInBounds_toArray, List.set_cons_zero, List.set_cons_succ]
                          refine wpAnyH_take (i := 25) (oi := _) (v := ?_) rfl (by kernel_rfl) (by kernel_rfl) (by kernel_rfl) (fun _ _ _ h => h) (Or.inl ⟨by rfl, ?_⟩) hS ?_
                          rotate_left
                          · (intro w hSw; (try dsimp only at hSw); go_simp; (try with_reducible rfl))
                          rotate_left
                          simp only [Act.put, List.getElem_toArray, List.getElem_cons_zero, List.getElem_cons_succ, List.setIfInBounds_toArray, List.set_cons_zero, List.set_cons_succ]
                          refine wpAnyH_take (i := 26) (oi := _) (v := ?_) rfl (by kernel_rfl) (by kernel_rfl) (by kernel_rfl) (fun _ _ _ h => h) (Or.inl ⟨by rfl, ?_⟩) hS ?_
                          rotate_left
                          · (intro w hSw; (try dsimp only at hSw); go_simp; (try with_reducible rfl))
                          rotate_left
                          simp only [Act.put, List.getElem_toArray, List.getElem_cons_zero, List.getElem_cons_succ, List.setIfInBounds_toArray, List.set_cons_zero, List.set_cons_succ]
                          refine wpAnyH_done (by kernel_rfl) ?_ _
                          have bH := hS.1
                          clear hS HS
                          have HT9 := Lib.hid (Ext.trans T7.out bH)
                          clear bH
                          have his : is = true := HFV.out.2 (.inl rfl)
                          subst his
                          go_wp2
                          go_ret
                          exact ⟨by first | rfl | simp, HT9.out⟩
                        | false =>
                          refine wpAnyH_take (i := 0) (oi := _) (v := ?_) rfl (by kernel_rfl) (by kernel_rfl) (by kernel_rfl) (fun _ _ _ h => h) (Or.inl ⟨by rfl, ?_⟩) hS ?_
                          rotate_left
                          · (intro w hSw; (try dsimp only at hSw); go_simp; (try with_reducible rfl))
                          rotate_left
                          simp only [Act.put, List.getElem_toArray, List.getElem_cons_zero, List.getElem_cons_succ, List.setIfInBounds_toArray, List.set_cons_zero, List.set_cons_succ]
                          refine wpAnyH_take (i := 1) (oi := _) (v := ?_) rfl (by kernel_rfl) (by kernel_rfl) (by kernel_rfl) (fun _ _ _ h => h) (Or.inl ⟨by rfl, ?_⟩) hS ?_
                          rotate_left
                          · (intro w hSw; (try dsimp only at hSw); go_simp; (try with_reducible rfl))
                          rotate_left
                          simp only [Act.put, List.getElem_toArray, List.getElem_cons_zero, List.getElem_cons_succ, List.setIfInBounds_toArray, List.set_cons_zero, List.set_cons_succ]
                          refine wpAnyH_take (i := 2) (oi := _) (v := ?_) rfl (by kernel_rfl) (by kernel_rfl) (by kernel_rfl) (fun _ _ _ h => h) (Or.inl ⟨by rfl, ?_⟩) hS ?_
                          rotate_left
                          · (intro w hSw; (try dsimp only at hSw); go_simp; (try with_reducible rfl))
                          rotate_left
                          simp only [Act.put, List.getElem_toArray, List.getElem_cons_zero, List.getElem_cons_succ, List.setIfInBounds_toArray, List.set_cons_zero, List.set_cons_succ]
                          refine wpAnyH_take (i := 3) (oi := _) (v := ?_) rfl (by kernel_rfl) (by kernel_rfl) (by kernel_rfl) (fun _ _ _ h => h) (Or.inl ⟨by rfl, ?_⟩) hS ?_
                          rotate_left
                          · (intro w hSw; (try dsimp only at hSw); go_simp; (try with_reducible rfl))
                          rotate_left
                          simp only [Act.put, List.getElem_toArray, List.getElem_cons_zero, List.getElem_cons_succ, List.setIfInBounds_toArray, List.set_cons_zero, List.set_cons_succ]
                          refine wpAnyH_take (i := 4) (oi := _) (v := ?_) rfl (by kernel_rfl) (by kernel_rfl) (by kernel_rfl) (fun _ _ _ h => h) (Or.inl ⟨by rfl, ?_⟩) hS ?_
                          rotate_left
                          · (intro w hSw; (try dsimp only at hSw); go_simp; (try with_reducible rfl))
                          rotate_left
                          simp only [Act.put, List.getElem_toArray, List.getElem_cons_zero, List.getElem_cons_succ, List.setIfInBounds_toArray, List.set_cons_zero, List.set_cons_succ]
                          refine wpAnyH_take (i := 5) (oi := _) (v := ?_) rfl (by kernel_rfl) (by kernel_rfl) (by kernel_rfl) (fun _ _ _ h => h) (Or.inl ⟨by rfl, ?_⟩) hS ?_
                          rotate_left
                          · (intro w hSw; (try dsimp only at hSw); go_simp; (try with_reducible rfl))
                          rotate_left
                          simp only [Act.put, List.getElem_toArray, List.getElem_cons_zero, List.getElem_cons_succ, List.setIfInBounds_toArray, List.set_cons_zero, List.set_cons_succ]
                          refine wpAnyH_take (i := 6) (oi := _) (v := ?_) rfl (by kernel_rfl) (by kernel_rfl) (by kernel_rfl) (fun _ _ _ h => h) (Or.inl ⟨by rfl, ?_⟩) hS ?_
                          rotate_left
                          · (intro w hSw; have sq := run_string_bs (P := Try.prog) dc 29 9 5 Try.underlying29 Try.underlying5 Try.underlying9 hSw.2.2.2.2.2; (try dsimp only at hSw); go_simp; (try with_reducible rfl))
                          rotate_left
                          try simp only [Act.put, List.getElem_toArray, List.getElem_cons_zero, List.getElem_cons_succ, List.setIfInBounds_toArray, List.set_cons_zero, List.set_cons_succ]
                          refine wpAnyH_take (i := 7) (oi := _) (v := ?_) rfl (by kernel_rfl) (by kernel_rfl) (by kernel_rfl) (fun _ _ _ h => h) (Or.inl ⟨by rfl, ?_⟩) hS ?_
                          rotate_left
                          · (intro w hSw; (try dsimp only at hSw); go_simp; (try with_reducible rfl))
                          rotate_left
                          simp only [Act.put, List.getElem_toArray, List.getElem_cons_zero, List.getElem_cons_succ, List.setIfInBounds_toArray, List.set_cons_zero, List.set_cons_succ]
                          refine wpAnyH_take (i := 8) (oi := _) (v := ?_) rfl (by kernel_rfl) (by kernel_rfl) (by kernel_rfl) (fun _ _ _ h => h) (Or.inl ⟨by rfl, ?_⟩) hS ?_
                          rotate_left
                          · (intro w hSw; (try dsimp only at hSw); go_simp; (try with_reducible rfl))
                          rotate_left
                          simp only [Act.put, List.getElem_toArray, List.getElem_cons_zero, List.getElem_cons_succ, List.setIfInBounds_toArray, List.set_cons_zero, List.set_cons_succ]
                          refine wpAnyH_take (i := 9) (oi := _) (v := ?_) rfl (by kernel_rfl) (by kernel_rfl) (by kernel_rfl) (fun _ _ _ h => h) (Or.inl ⟨by rfl, ?_⟩) hS ?_
                          rotate_left
                          · (intro w hSw; (try dsimp only at hSw); go_simp; (try with_reducible rfl))
                          rotate_left
                          simp only [Act.put, List.getElem_toArray, List.getElem_cons_zero, List.getElem_cons_succ, List.setIfInBounds_toArray, List.set_cons_zero, List.set_cons_succ]
                          refine wpAnyH_take (i := 10) (oi := _) (v := ?_) rfl (by kernel_rfl) (by kernel_rfl) (by kernel_rfl) (fun _ _ _ h => h) (Or.inl ⟨by rfl, ?_⟩) hS ?_
                          rotate_left
                          · (intro w hSw; (try dsimp only at hSw); go_simp; (try with_reducible rfl))
                          rotate_left
                          simp only [Act.put, List.getElem_toArray, List.getElem_cons_zero, List.getElem_cons_succ, List.setIfInBounds_toArray, List.set_cons_zero, List.set_cons_succ]
                          refine wpAnyH_take (i := 11) (oi := _) (v := ?_) rfl (by kernel_rfl) (by kernel_rfl) (by kernel_rfl) (fun _ _ _ h => h) (Or.inl ⟨by rfl, ?_⟩) hS ?_
                          rotate_left
                          · (intro w hSw; (try dsimp only at hSw); go_simp; (try with_reducible rfl))
                          rotate_left
                          simp only [Act.put, List.getElem_toArray, List.getElem_cons_zero, List.getElem_cons_succ, List.setIfInBounds_toArray, List.set_cons_zero, List.set_cons_succ]
                          refine wpAnyH_take (i := 12) (oi := _) (v := ?_) rfl (by kernel_rfl) (by kernel_rfl) (by kernel_rfl) (fun _ _ _ h => h) (Or.inl ⟨by rfl, ?_⟩) hS ?_
                          rotate_left
                          · (intro w hSw; (try dsimp only at hSw); go_simp; (try with_reducible rfl))
                          rotate_left
                          simp only [Act.put, List.getElem_toArray, List.getElem_cons_zero, List.getElem_cons_succ, List.setIfInBounds_toArray, List.set_cons_zero, List.set_cons_succ]
                          refine wpAnyH_take (i := 13) (oi := _) (v := ?_) rfl (by kernel_rfl) (by kernel_rfl) (by kernel_rfl) (fun _ _ _ h => h) (Or.inl ⟨by rfl, ?_⟩) hS ?_
                          rotate_left
                          · (intro w hSw; (try dsimp only at hSw); go_simp; (try with_reducible rfl))
                          rotate_left
                          simp only [Act.put, List.getElem_toArray, List.getElem_cons_zero, List.getElem_cons_succ, List.setIfInBounds_toArray, List.set_cons_zero, List.set_cons_succ]
                          refine wpAnyH_take (i := 14) (oi := _) (v := ?_) rfl (by kernel_rfl) (by kernel_rfl) (by kernel_rfl) (fun _ _ _ h => h) (Or.inl ⟨by rfl, ?_⟩) hS ?_
                          rotate_left
                          · (intro w hSw; (try dsimp only at hSw); go_simp; (try with_reducible rfl))
                          rotate_left
                          simp only [Act.put, List.getElem_toArray, List.getElem_cons_zero, List.getElem_cons_succ, List.setIfInBounds_toArray, List.set_cons_zero, List.set_cons_succ]
                          refine wpAnyH_take (i := 15) (oi := _) (v := ?_) rfl (by kernel_rfl) (by kernel_rfl) (by kernel_rfl) (fun _ _ _ h => h) (Or.inl ⟨by rfl, ?_⟩) hS ?_
                          rotate_left
                          · (intro w hSw; (try dsimp only at hSw); go_simp; (try with_reducible rfl))
                          rotate_left
                          simp only [Act.put, List.getElem_toArray, List.getElem_cons_zero, List.getElem_cons_succ, List.setIfInBounds_toArray, List.set_cons_zero, List.set_cons_succ]
                          refine wpAnyH_take (i := 16) (oi := _) (v := ?_) rfl (by kernel_rfl) (by kernel_rfl) (by kernel_rfl) (fun _ _ _ h => h) (Or.inl ⟨by rfl, ?_⟩) hS ?_
                          rotate_left
                          · (intro w hSw; (try dsimp only at hSw); go_simp; (try with_reducible rfl))
                          rotate_left
                          simp only [Act.put, List.getElem_toArray, List.getElem_cons_zero, List.getElem_cons_succ, List.setIfInBounds_toArray, List.set_cons_zero, List.set_cons_succ]
                          refine wpAnyH_take (i := 17) (oi := _) (v := ?_) rfl (by kernel_rfl) (by kernel_rfl) (by kernel_rfl) (fun _ _ _ h => h) (Or.inl ⟨by rfl, ?_⟩) hS ?_
                          rotate_left
                          · (intro w hSw; (try dsimp only at hSw); go_simp; (try with_reducible rfl))
                          rotate_left
                          simp only [Act.put, List.getElem_toArray, List.getElem_cons_zero, List.getElem_cons_succ, List.setIfInBounds_toArray, List.set_cons_zero, List.set_cons_succ]
                          refine wpAnyH_take (i := 18) (oi := _) (v := ?_) rfl (by kernel_rfl) (by kernel_rfl) (by kernel_rfl) (fun _ _ _ h => h) (Or.inl ⟨by rfl, ?_⟩) hS ?_
                          rotate_left
                          · (intro w hSw; (try dsimp only at hSw); go_simp; (try with_reducible rfl))
                          rotate_left
                          simp only [Act.put, List.getElem_toArray, List.getElem_cons_zero, List.getElem_cons_succ, List.setIfInBounds_toArray, List.set_cons_zero, List.set_cons_succ]
                          refine wpAnyH_take (i := 19) (oi := _) (v := ?_) rfl (by kernel_rfl) (by kernel_rfl) (by kernel_rfl) (fun _ _ _ h => h) (Or.inl ⟨by rfl, ?_⟩) hS ?_
                          rotate_left
                          · (intro w hSw; (try dsimp only at hSw); go_simp; (try with_reducible rfl))
                          rotate_left
                          simp only [Act.put, List.getElem_toArray, List.getElem_cons_zero, List.getElem_cons_succ, List.setIfInBounds_toArray, List.set_cons_zero, List.set_cons_succ]
                          refine wpAnyH_take (i := 20) (oi := _) (v := ?_) rfl (by kernel_rfl) (by kernel_rfl) (by kernel_rfl) (fun _ _ _ h => h) (Or.inl ⟨by rfl, ?_⟩) hS ?_
                          rotate_left
                          · (intro w hSw; (try dsimp only at hSw); go_simp; (try with_reducible rfl))
                          rotate_left
                          simp only [Act.put, List.getElem_toArray, List.getElem_cons_zero, List.getElem_cons_succ, List.setIfInBounds_toArray, List.set_cons_zero, List.set_cons_succ]
                          refine wpAnyH_take (i := 21) (oi := _) (v := ?_) rfl (by kernel_rfl) (by kernel_rfl) (by kernel_rfl) (fun _ _ _ h => h) (Or.inl ⟨by rfl, ?_⟩) hS ?_
                          rotate_left
                          · (intro w hSw; have sq := run_string_bs (P := Try.prog) c3 29 9 5 Try.underlying29 Try.underlying5 Try.underlying9 hSw.2.2.2.2.1; (try dsimp only at hSw); go_simp; (try with_reducible rfl))
                          rotate_left
                          try simp only [Act.put, List.getElem_toArray, List.getElem_cons_zero, List.getElem_cons_succ, List.setIfInBounds_toArray, List.set_cons_zero, List.set_cons_succ]
                          refine wpAnyH_take (i := 22) (oi := _) (v := ?_) rfl (by kernel_rfl) (by kernel_rfl) (by kernel_rfl) (fun _ _ _ h => h) (Or.inl ⟨by rfl, ?_⟩) hS ?_
                          rotate_left
                          · (intro w hSw; (try dsimp only at hSw); go_simp; (try with_reducible rfl))
                          rotate_left
                          simp only [Act.put, List.getElem_toArray, List.getElem_cons_zero, List.getElem_cons_succ, List.setIfInBounds_toArray, List.set_cons_zero, List.set_cons_succ]
                          refine wpAnyH_take (i := 23) (oi := _) (v := ?_) rfl (by kernel_rfl) (by kernel_rfl) (by kernel_rfl) (fun _ _ _ h => h) (Or.inl ⟨by rfl, ?_⟩) hS ?_
                          rotate_left
                          · (intro w hSw; (try dsimp only at hSw); go_simp; (try with_reducible rfl))
                          rotate_left
                          simp only [Act.put, List.getElem_toArray, List.getElem_cons_zero, List.getElem_cons_succ, List.setIfInBounds_toArray, List.set_cons_zero, List.set_cons_succ]
                          refine wpAnyH_take (i := 24) (oi := _) (v := ?_) rfl (by kernel_rfl) (by kernel_rfl) (by kernel_rfl) (fun _ _ _ h => h) (Or.inl ⟨by rfl, ?_⟩) hS ?_
                          rotate_left
                          · (intro w hSw; (try dsimp only at hSw); go_simp; (try with_reducible rfl))
                          rotate_left
                          simp only [Act.put, List.getElem_toArray, List.getElem_cons_zero, List.getElem_cons_succ, List.setIfInBounds_toArray, List.set_cons_zero, List.set_cons_succ]
                          refine wpAnyH_take (i := 25) (oi := _) (v := ?_) rfl (by kernel_rfl) (by kernel_rfl) (by kernel_rfl) (fun _ _ _ h => h) (Or.inl ⟨by rfl, ?_⟩) hS ?_
                          rotate_left
                          · (intro w hSw; (try dsimp only at hSw); go_simp; (try with_reducible rfl))
                          rotate_left
                          simp only [Act.put, List.getElem_toArray, List.getElem_cons_zero, List.getElem_cons_succ, List.setIfInBounds_toArray, List.set_cons_zero, List.set_cons_succ]
                          refine wpAnyH_take (i := 26) (oi := _) (v := ?_) rfl (by kernel_rfl) (by kernel_rfl) (by kernel_rfl) (fun _ _ _ h => h) (Or.inl ⟨by rfl, ?_⟩) hS ?_
                          rotate_left
                          · (intro w hSw; (try dsimp only at hSw); go_simp; (try with_reducible rfl))
                          rotate_left
                          simp only [Act.put, List.getElem_toArray, List.getElem_cons_zero, List.getElem_cons_succ, List.setIfInBounds_toArray, List.set_cons_zero, List.set_cons_succ]
                          refine wpAnyH_done (by kernel_rfl) ?_ _
                          have bH := hS.1
                          clear hS HS
                          have HT9 := Lib.hid (Ext.trans T7.out bH)
                          clear bH
                          have HBE : Hid ((is == (ds == lv)) = true) := beq_of_iff (HFV.out.trans ⟨fun h => h.elim (fun h => by cases h) (fun h => by rw [beq_iff_eq]; exact h), fun h => .inr (by rwa [beq_iff_eq] at h)⟩)
                          go_wp2
                          go_ret
                          exact ⟨by first | exact congrArg (fun z => Ending.returned (.bool z)) HBE.out | (rw [← HBE.out]), HT9.out⟩
                      · clear HFL
                        have c7 := C7.cell
                        have p7 := P7.cell
                        go_wp2_with fail
                        refine (smay_any S ⟨id, m, c, r, l, h⟩ ys gs _ ca (some ⟨bA, oA, none⟩) cb (nn : Int) D dc ds wr (HY.out.below T7.out) (HG.out.below T7.out) (HD.out.below T7.out).bytes_bs).mono ?_
                        rintro e w9 ⟨⟨was, v3, rfl, hmay2⟩, b9⟩
                        have HWAS : Hid (v3 = 0 ∧ (was = true ↔ LeftP ys gs nn ds)) := by
                          rcases hmay2 with h1 | h1 | h1 | h1
                          · exact absurd HOK.out h1.1
                          · exact absurd ⟨by omega, by have := HM1.out.1; omega⟩ h1.2.1
                          · exact absurd HDL.out h1.2.2.1
                          · exact ⟨h1.2.2.2.2, by have h2 := h1.2.2.2.1; rwa [Int.toNat_natCast] at h2⟩
                        have HT9 := Lib.hid (Ext.trans T7.out b9)
                        obtain ⟨rfl, _⟩ := HWAS.out
                        clear hmay2 c7 p7 b9
                        cases is with
                        | false =>
                          go_wp2
                          go_ret
                          exact ⟨by first | rfl | simp, HT9.out⟩
                        | true =>
                          have HW1 : Hid (was = true) := HWAS.out.2.2 (by
                            obtain ⟨hj, hgj⟩ := HGJ.out
                            exact HEA.out.left hj hgj.symm HM1.out.1 (HM1.out.2.1 rfl))
                          go_wp2
                          go_ret
                          exact ⟨by rw [← HW1.out]; first | rfl | simp, HT9.out⟩
                    · have x7 := A7.cell
                      go_upto_region 30 with fail
                      have HS : Hid (∀ w', Below wr.heap.size wr w' → (Below wr.heap.size wr w' ∧ (∀ p, w'.cell? ⟨ga, p, none⟩ = (#[.int .i64 number, .int .u8 ((kiOf g).toNat : Int), .int .i64 (a : Int), .int .i64 (y : Int), .slice Ag (datOf g).length cg, .slice Am (mksOf g).length cm] : Array Value).toList[p]?))) := fun w' b => ⟨b, (A7.next b).cell⟩
                      refine wp_region_held_drew (S := fun w' => Below wr.heap.size wr w' ∧ (∀ p, w'.cell? ⟨ga, p, none⟩ = (#[.int .i64 number, .int .u8 ((kiOf g).toNat : Int), .int .i64 (a : Int), .int .i64 (y : Int), .slice Ag (datOf g).length cg, .slice Am (mksOf g).length cm] : Array Value).toList[p]?)) (by kernel_rfl) (HS.out _ (Ext.drew (Below.refl _ _))) (fun hS => ?_)
                      refine wpAnyH_take (i := 0) (oi := _) (v := ?_) rfl (by kernel_rfl) (by kernel_rfl) (by kernel_rfl) (fun _ _ _ h => h) (Or.inl ⟨by rfl, ?_⟩) hS ?_
                      rotate_left
                      · (intro w hSw; (try dsimp only at hSw); go_simp; (try with_reducible rfl))
                      rotate_left
                      simp only [Act.put, List.getElem_toArray, List.getElem_cons_zero, List.getElem_cons_succ, List.setIfInBounds_toArray, List.set_cons_zero, List.set_cons_succ]
                      refine wpAnyH_take (i := 1) (oi := _) (v := ?_) rfl (by kernel_rfl) (by kernel_rfl) (by kernel_rfl) (fun _ _ _ h => h) (Or.inl ⟨by rfl, ?_⟩) hS ?_
                      rotate_left
                      · (intro w hSw; (try dsimp only at hSw); go_simp; (try with_reducible rfl))
                      rotate_left
                      simp only [Act.put, List.getElem_toArray, List.getElem_cons_zero, List.getElem_cons_succ, List.setIfInBounds_toArray, List.set_cons_zero, List.set_cons_succ]
                      refine wpAnyH_take (i := 2) (oi := _) (v := ?_) rfl (by kernel_rfl) (by kernel_rfl) (by kernel_rfl) (fun _ _ _ h => h) (Or.inl ⟨by rfl, ?_⟩) hS ?_
                      rotate_left
                      · (intro w hSw; (try dsimp only at hSw); go_simp; (try with_reducible rfl))
                      rotate_left
                      simp only [Act.put, List.getElem_toArray, List.getElem_cons_zero, List.getElem_cons_succ, List.setIfInBounds_toArray, List.set_cons_zero, List.set_cons_succ]
                      refine wpAnyH_take (i := 3) (oi := _) (v := ?_) rfl (by kernel_rfl) (by kernel_rfl) (by kernel_rfl) (fun _ _ _ h => h) (Or.inl ⟨by rfl, ?_⟩) hS ?_
                      rotate_left
                      · (intro w hSw; (try dsimp only at hSw); go_simp; (try with_reducible rfl))
                      rotate_left
                      simp only [Act.put, List.getElem_toArray, List.getElem_cons_zero, List.getElem_cons_succ, List.setIfInBounds_toArray, List.set_cons_zero, List.set_cons_succ]
                      refine wpAnyH_take (i := 4) (oi := _) (v := ?_) rfl (by kernel_rfl) (by kernel_rfl) (by kernel_rfl) (fun _ _ _ h => h) (Or.inl ⟨by rfl, ?_⟩) hS ?_
                      rotate_left
                      · (intro w hSw; (try dsimp only at hSw); go_simp; (try with_reducible rfl))
                      rotate_left
                      simp only [Act.put, List.getElem_toArray, List.getElem_cons_zero, List.getElem_cons_succ, List.setIfInBounds_toArray, List.set_cons_zero, List.set_cons_succ]
                      refine wpAnyH_take (i := 5) (oi := _) (v := ?_) rfl (by kernel_rfl) (by kernel_rfl) (by kernel_rfl) (fun _ _ _ h => h) (Or.inr ⟨by rfl, ?_⟩) hS ?_
                      rotate_left
                      · rfl
                      rotate_left
                      simp only [Act.put, List.getElem_toArray, List.getElem_cons_zero, List.getElem_cons_succ, List.setIfInBounds_toArray, List.set_cons_zero, List.set_cons_succ]
                      refine wpAnyH_take (i := 6) (oi := _) (v := ?_) rfl (by kernel_rfl) (by kernel_rfl) (by kernel_rfl) (fun _ _ _ h => h) (Or.inr ⟨by rfl, ?_⟩) hS ?_
                      rotate_left
                      · rfl
                      rotate_left
                      simp only [Act.put, List.getElem_toArray, List.getElem_cons_zero, List.getElem_cons_succ, List.setIfInBounds_toArray, List.set_cons_zero, List.set_cons_succ]
                      refine wpAnyH_take (i := 7) (oi := _) (v := ?_) rfl (by kernel_rfl) (by kernel_rfl) (by kernel_rfl) (fun _ _ _ h => h) (Or.inr ⟨by rfl, ?_⟩) hS ?_
                      rotate_left
                      · rfl
                      rotate_left
                      simp only [Act.put, List.getElem_toArray, List.getElem_cons_zero, List.getElem_cons_succ, List.setIfInBounds_toArray, List.set_cons_zero, List.set_cons_succ]
                      refine wpAnyH_take (i := 8) (oi := _) (v := ?_) rfl (by kernel_rfl) (by kernel_rfl) (by kernel_rfl) (fun _ _ _ h => h) (Or.inr ⟨by rfl, ?_⟩) hS ?_
                      rotate_left
                      · rfl
                      rotate_left
                      simp only [Act.put, List.getElem_toArray, List.getElem_cons_zero, List.getElem_cons_succ, List.setIfInBounds_toArray, List.set_cons_zero, List.set_cons_succ]
                      refine wpAnyH_take (i := 9) (oi := _) (v := ?_) rfl (by kernel_rfl) (by kernel_rfl) (by kernel_rfl) (fun _ _ _ h => h) (Or.inr ⟨by rfl, ?_⟩) hS ?_
                      rotate_left
                      · rfl
                      rotate_left
                      simp only [Act.put, List.getElem_toArray, List.getElem_cons_zero, List.getElem_cons_succ, List.setIfInBounds_toArray, List.set_cons_zero, List.set_cons_succ]
                      refine wpAnyH_take (i := 10) (oi := _) (v := ?_) rfl (by kernel_rfl) (by kernel_rfl) (by kernel_rfl) (fun _ _ _ h => h) (Or.inr ⟨by rfl, ?_⟩) hS ?_
                      rotate_left
                      · rfl
                      rotate_left
                      simp only [Act.put, List.getElem_toArray, List.getElem_cons_zero, List.getElem_cons_succ, List.setIfInBounds_toArray, List.set_cons_zero, List.set_cons_succ]
                      refine wpAnyH_take (i := 11) (oi := _) (v := ?_) rfl (by kernel_rfl) (by kernel_rfl) (by kernel_rfl) (fun _ _ _ h => h) (Or.inr ⟨by rfl, ?_⟩) hS ?_
                      rotate_left
                      · rfl
                      rotate_left
                      simp only [Act.put, List.getElem_toArray, List.getElem_cons_zero, List.getElem_cons_succ, List.setIfInBounds_toArray, List.set_cons_zero, List.set_cons_succ]
                      refine wpAnyH_take (i := 12) (oi := _) (v := ?_) rfl (by kernel_rfl) (by kernel_rfl) (by kernel_rfl) (fun _ _ _ h => h) (Or.inr ⟨by rfl, ?_⟩) hS ?_
                      rotate_left
                      · rfl
                      rotate_left
                      simp only [Act.put, List.getElem_toArray, List.getElem_cons_zero, List.getElem_cons_succ, List.setIfInBounds_toArray, List.set_cons_zero, List.set_cons_succ]
                      refine wpAnyH_take (i := 13) (oi := _) (v := ?_) rfl (by kernel_rfl) (by kernel_rfl) (by kernel_rfl) (fun _ _ _ h => h) (Or.inr ⟨by rfl, ?_⟩) hS ?_
                      rotate_left
                      · rfl
                      rotate_left
                      simp only [Act.put, List.getElem_toArray, List.getElem_cons_zero, List.getElem_cons_succ, List.setIfInBounds_toArray, List.set_cons_zero, List.set_cons_succ]
                      refine wpAnyH_take (i := 14) (oi := _) (v := ?_) rfl (by kernel_rfl) (by kernel_rfl) (by kernel_rfl) (fun _ _ _ h => h) (Or.inr ⟨by rfl, ?_⟩) hS ?_
                      rotate_left
                      · rfl
                      rotate_left
                      simp only [Act.put, List.getElem_toArray, List.getElem_cons_zero, List.getElem_cons_succ, List.setIfInBounds_toArray, List.set_cons_zero, List.set_cons_succ]
                      refine wpAnyH_take (i := 15) (oi := _) (v := ?_) rfl (by kernel_rfl) (by kernel_rfl) (by kernel_rfl) (fun _ _ _ h => h) (Or.inr ⟨by rfl, ?_⟩) hS ?_
                      rotate_left
                      · rfl
                      rotate_left
                      simp only [Act.put, List.getElem_toArray, List.getElem_cons_zero, List.getElem_cons_succ, List.setIfInBounds_toArray, List.set_cons_zero, List.set_cons_succ]
                      refine wpAnyH_take (i := 16) (oi := _) (v := ?_) rfl (by kernel_rfl) (by kernel_rfl) (by kernel_rfl) (fun _ _ _ h => h) (Or.inr ⟨by rfl, ?_⟩) hS ?_
                      rotate_left
                      · rfl
                      rotate_left
                      simp only [Act.put, List.getElem_toArray, List.getElem_cons_zero, List.getElem_cons_succ, List.setIfInBounds_toArray, List.set_cons_zero, List.set_cons_succ]
                      refine wpAnyH_take (i := 17) (oi := _) (v := ?_) rfl (by kernel_rfl) (by kernel_rfl) (by kernel_rfl) (fun _ _ _ h => h) (Or.inr ⟨by rfl, ?_⟩) hS ?_
                      rotate_left
                      · rfl
                      rotate_left
                      simp only [Act.put, List.getElem_toArray, List.getElem_cons_zero, List.getElem_cons_succ, List.setIfInBounds_toArray, List.set_cons_zero, List.set_cons_succ]
                      refine wpAnyH_take (i := 18) (oi := _) (v := ?_) rfl (by kernel_rfl) (by kernel_rfl) (by kernel_rfl) (fun _ _ _ h => h) (Or.inl ⟨by rfl, ?_⟩) hS ?_
                      rotate_left
                      · (intro w hSw; (try dsimp only at hSw); go_simp; (try with_reducible rfl))
                      rotate_left
                      simp only [Act.put, List.getElem_toArray, List.getElem_cons_zero, List.getElem_cons_succ, List.setIfInBounds_toArray, List.set_cons_zero, List.set_cons_succ]
                      refine wpAnyH_done (by kernel_rfl) ?_ _
                      have bH := hS.1
                      clear hS HS
                      have HT8 := Lib.hid (Ext.trans T7.out bH)
                      have C7' := C7.drew
                      have P7' := P7.drew
                      clear C7 P7 bH
                      have C7 := C7'
                      have P7 := P7'
                      clear C7' P7' T7
                      have T7 := HT8
                      generalize wr.drew = wr at *
                      have c7 := C7.cell
                      have p7 := P7.cell
                      go_wp2_with fail
                      refine (smay_any S ⟨id, m, c, r, l, h⟩ ys gs _ ca (some ⟨bA, oA, none⟩) cb (nn : Int) D dc ds wr (HY.out.below T7.out) (HG.out.below T7.out) (HD.out.below T7.out).bytes_bs).mono ?_
                      rintro e w9 ⟨⟨was, v3, rfl, hmay2⟩, b9⟩
                      have HWAS : Hid (v3 = 0 ∧ (was = true ↔ LeftP ys gs nn ds)) := by
                        rcases hmay2 with h1 | h1 | h1 | h1
                        · exact absurd HOK.out h1.1
                        · exact absurd ⟨by omega, by have := HM1.out.1; omega⟩ h1.2.1
                        · exact absurd HDL.out h1.2.2.1
                        · exact ⟨h1.2.2.2.2, by have h2 := h1.2.2.2.1; rwa [Int.toNat_natCast] at h2⟩
                      have HT9 := Lib.hid (Ext.trans T7.out b9)
                      obtain ⟨rfl, _⟩ := HWAS.out
                      clear hmay2 c7 p7 b9
                      cases is with
                      | false =>
                        go_wp2
                        go_ret
                        exact ⟨by first | rfl | simp, HT9.out⟩
                      | true =>
                        have HW1 : Hid (was = true) := HWAS.out.2.2 (by
                          obtain ⟨hj, hgj⟩ := HGJ.out
                          exact HEA.out.left hj hgj.symm HM1.out.1 (HM1.out.2.1 rfl))
                        go_wp2
                        go_ret
                        exact ⟨by rw [← HW1.out]; first | rfl | simp, HT9.out⟩
theorem modelsure_walk (w : World) (c0 : List Value) (x0 : (Ty.st (.prod .u32 (.prod .int (.prod .int (.prod .int (.prod .int (.prod .int .unit))))))).T) (h0 : RdIn w (fun b => b < w.heap.size) (Ty.st (.prod .u32 (.prod .int (.prod .int (.prod .int (.prod .int (.prod .int .unit))))))) x0 c0) (c1 : List Value) (x1 : PlTy.T) (h1 : RdIn w (fun b => b < w.heap.size) PlTy x1 c1) (v2 : Value) (x2 : Ty.int.T) (h2 : RdIn w (fun b => b < w.heap.size) .int x2 [v2]) (v3 : Value) (x3 : Ty.int.T) (h3 : RdIn w (fun b => b < w.heap.size) .int x3 [v3]) (v4 : Value) (x4 : (Ty.sl .byte).T) (h4 : RdIn w (fun b => b < w.heap.size) (.sl .byte) x4 [v4]) :
    Calls Try.prog 6 #[.agg c0.toArray, .agg c1.toArray, v2, v3, v4] w fun e w' => e = .returned (.bool true) ∧ Below w.heap.size w w' := by
  obtain ⟨x, hx⟩ := cfg_deep h0
  rw [hx]
  obtain ⟨ys, gs, vy, vg, rfl, rfl, hy, hg⟩ := plain_view h1
  obtain ⟨A, ca, rfl⟩ := sl_deep hy
  obtain ⟨B, cb, rfl⟩ := sl_deep hg
  obtain ⟨n, rfl, _⟩ := int_deep h2
  obtain ⟨k, rfl, _⟩ := int_deep h3
  obtain ⟨D, dc, rfl⟩ := sl_deep h4
  exact sure_core _ x ys gs A ca B cb n k D dc x4 w hy hg h4
end Go.Proofs.Ytclbihcggjjgaaa
