/- Layer 30 (model): ModelLeaves: what a crash may leave, and leaves. -/
import Derived.Test.YtclbihcggjjgaaaModel17
namespace Go.Proofs.Ytclbihcggjjgaaa
open Go Go.RowKit
set_option linter.unusedSimpArgs false
set_option linter.unusedVariables false

theorem RdIn.tt {w : World} {S : Nat → Prop} {t : Ty} {x : t.T} {cs : List Value} (h : RdIn w S t x cs) : RdIn w (fun _ => True) t x cs := h.mono fun _ _ => trivial
theorem BoxOf.within {lo hi : Nat} {w w' : World} (hw : Within lo hi w w') {g : Nat} {cs : Array Value} {t : TypeId} (h : BoxOf w g cs t) (hg : g < lo ∨ hi ≤ g) : BoxOf w' g cs t := by
  unfold BoxOf at *
  rcases hg with hg | hg
  · rw [hw.below.block g hg]; exact h
  · rw [hw.above g hg (Array.getElem?_eq_some_iff.1 h).1]; exact h
theorem rdin_nilG (w : World) (S : Nat → Prop) : RdIn w S (.sl GoTy) [] [.slice none 0 0] := rdin_sl.2 ⟨none, 0, rfl, by simp, by simp [maxLen], by simp, .inl rfl⟩
theorem cfg_deep {w : World} {S : Nat → Prop} {cs : List Value} {x : (Ty.st (.prod .u32 (.prod .int (.prod .int (.prod .int (.prod .int (.prod .int .unit))))))).T} (h : RdIn w S (Ty.st (.prod .u32 (.prod .int (.prod .int (.prod .int (.prod .int (.prod .int .unit))))))) x cs) : ∃ y : Cfg, Value.agg cs.toArray = y.val := by
  obtain ⟨id, m, c, r, l, h', u⟩ := x
  obtain ⟨c0, d0, rfl, r0, h⟩ := rdin_prod.1 (rdin_st.1 h)
  obtain ⟨c1, d1, rfl, r1, h⟩ := rdin_prod.1 h
  obtain ⟨c2, d2, rfl, r2, h⟩ := rdin_prod.1 h
  obtain ⟨c3, d3, rfl, r3, h⟩ := rdin_prod.1 h
  obtain ⟨c4, d4, rfl, r4, h⟩ := rdin_prod.1 h
  obtain ⟨c5, d5, rfl, r5, h⟩ := rdin_prod.1 h
  obtain rfl := rdin_unit.1 h
  obtain ⟨rfl, _⟩ := rdin_u32.1 r0
  obtain ⟨rfl, _⟩ := rdin_int.1 r1
  obtain ⟨rfl, _⟩ := rdin_int.1 r2
  obtain ⟨rfl, _⟩ := rdin_int.1 r3
  obtain ⟨rfl, _⟩ := rdin_int.1 r4
  obtain ⟨rfl, _⟩ := rdin_int.1 r5
  exact ⟨⟨id, m, c, r, l, h'⟩, rfl⟩

set_option maxRecDepth 100000 in
set_option maxHeartbeats 4000000 in
theorem leaves_core (S : Nat → Prop) (x : Cfg) (ys : List (List (List UInt8))) (gs : List GoTy.T) (A : Option Addr) (ca : Nat) (B : Option Addr) (cb : Nat) (n : Int) (D : Option Addr) (dc : Nat) (ds : List UInt8) (E : Option Addr) (ec : Nat) (bl : List (List UInt8)) (w : World) (hy : RdIn w S (.sl (.sl (.sl .byte))) ys [.slice A ys.length ca]) (hg : RdIn w S (.sl GoTy) gs [.slice B gs.length cb]) (hd : RdIn w S (.sl .byte) ds [.slice D ds.length dc]) (hb : RdIn w S (.sl (.sl .byte)) bl [.slice E bl.length ec]) :
    Calls Try.prog 3 #[x.val, .agg #[.slice A ys.length ca, .slice B gs.length cb], .int .i64 n, .slice D ds.length dc, .slice E bl.length ec] w fun e w' => e = .returned (.bool true) ∧ Below w.heap.size w w' := by
  have HY := Lib.hid hy
  have HG := Lib.hid hg
  have HD := Lib.hid hd
  have HB := Lib.hid hb
  have HBM := Lib.hid (val_max hb)
  clear hy hg hd hb
  obtain ⟨id, m, c, r, l, h⟩ := x
  unfold Cfg.val at *
  dsimp only at *
  have C0 := BoxOf.alloc (BoxOf.new w #[.int .u32 (id : Int), .int .i64 m, .int .i64 c, .int .i64 r, .int .i64 l, .int .i64 h] 24) (.cells #[.slice A ys.length ca, .slice B gs.length cb] 28)
  have P0 := BoxOf.new' (w.alloc (.cells #[.int .u32 (id : Int), .int .i64 m, .int .i64 c, .int .i64 r, .int .i64 l, .int .i64 h] 24)) (w.heap.size + 1) #[.slice A ys.length ca, .slice B gs.length cb] 28 (by simp)
  have t0 := Ext.alloc (Ext.alloc (Below.refl w.heap.size w) (.cells #[.int .u32 (id : Int), .int .i64 m, .int .i64 c, .int .i64 r, .int .i64 l, .int .i64 h] 24)) (.cells #[.slice A ys.length ca, .slice B gs.length cb] 28)
  go_enter Try.func3, Try.ntmps3
  go_upto_region 1 with fail
  generalize (w.alloc (.cells #[.int .u32 (id : Int), .int .i64 m, .int .i64 c, .int .i64 r, .int .i64 l, .int .i64 h] 24)).alloc (.cells #[.slice A ys.length ca, .slice B gs.length cb] 28) = W at *
  have y0 := P0.cell
  go_wp2_with fail
  refine (rgreat_any S ys gs A ca B cb W (HY.out.below t0) (HG.out.below t0)).mono ?_
  rintro e w1 ⟨⟨b, rfl⟩, b1⟩
  have C1 := C0.next b1
  have P1 := P0.next b1
  have t1 := Ext.trans t0 b1
  clear y0 C0 P0 b1 t0
  cases b with
  | true =>
    go_wp2
    go_ret
    exact ⟨rfl, t1⟩
  | false =>
    rcases Bool.eq_false_or_eq_true (decide ((1000 : Int) < (ds.length : Int))) with e1 | e1
    · go_wp2
      go_ret
      exact ⟨rfl, t1⟩
    · rcases Bool.eq_false_or_eq_true (decide ((2000 : Int) < (bl.length : Int))) with e2 | e2
      · go_wp2
        go_ret
        exact ⟨rfl, t1⟩
      · go_wp2
        clear e1 e2
        go_loopw [11] (fun i wr => ∃ (j : Nat), j ≤ bl.length ∧ i = .int .i64 j ∧ Below w1.heap.size w1 wr) (fun i _ => bl.length - (intOf i).toNat)
        case atStart => exact ⟨0, by omega, rfl, Below.refl _ _⟩
        case round =>
          obtain ⟨j, hj, rfl, b2⟩ := hrel
          have t2 := Ext.trans t1 b2
          by_cases hlt : j < bl.length
          · obtain ⟨b6, off6, A5, c5, rfl, q5, r5⟩ := val_at (HB.out.below t2) hlt
            generalize bl[j] = bs at *
            have HWJ := next_wrap HBM.out hlt
            have HLJ := Lib.hid hlt
            clear r5
            rcases Bool.eq_false_or_eq_true (decide ((1000 : Int) < (bs.length : Int))) with e3 | e3
            · go_wp2
              go_ret
              exact ⟨rfl, t2⟩
            · go_wp2
              go_roundw
              case rel => exact ⟨j + 1, HLJ.out, by first | exact round_same HWJ | go_num, b2⟩
              case measure => first | exact round_less HWJ HLJ.out | (have h := HLJ.out; simp [intOf]; omega)
          · have C2 := C1.next b2
            have P2 := P1.next b2
            have y2 := P2.cell
            clear C1 P1 b2 t1
            go_wp2_with fail
            refine (rtwin_any S ys gs A ca B cb wr (HY.out.below t2) (HG.out.below t2)).mono ?_
            rintro e w3 ⟨A', c', B', d', rfl, ry, rg, b3⟩
            have HOY := Lib.hid ry
            have HOG := Lib.hid rg
            clear ry rg hj hlt y2
            have C3 := C2.next b3
            have P3 := P2.next b3
            have t3 := Ext.trans t2 b3
            have hlo3 := b3.size
            have hlw := t2.size
            clear C2 P2 t2 b3
            go_upto_region 9 with fail
            have O4 := BoxOf.new w3 #[.slice A' ys.length c', .slice B' gs.length d'] 28
            have b3 := Ext.alloc (Below.refl w3.heap.size w3) (.cells #[.slice A' ys.length c', .slice B' gs.length d'] 28)
            have C4 := C3.alloc (.cells #[.slice A' ys.length c', .slice B' gs.length d'] 28)
            have P4 := P3.alloc (.cells #[.slice A' ys.length c', .slice B' gs.length d'] 28)
            have t4 := Ext.trans t3 b3
            clear C3 P3 t3
            have HOY4 := Lib.hid (HOY.out.below b3)
            have HOG4 := Lib.hid (HOG.out.below b3)
            obtain ⟨g12, hg12⟩ : ∃ z : Nat, z = w3.heap.size := ⟨_, rfl⟩
            rw [← hg12] at O4 ⊢
            have H12 := Lib.hid hg12
            clear HOY HOG b3 hg12
            generalize w3.alloc (.cells #[.slice A' ys.length c', .slice B' gs.length d'] 28) = w4 at *
            have c4 := C4.cell
            have o4 := O4.cell
            go_wp2_with fail
            refine (smay_any _ ⟨id, m, c, r, l, h⟩ ys gs A' c' B' d' n D dc ds w4 HOY4.out HOG4.out (HD.out.below t4).bytes_bs).mono ?_
            rintro e w5 ⟨⟨a1, v1, rfl, hm1⟩, b4⟩
            have HM1 := Lib.hid hm1
            clear hm1 c4 o4
            have C5 := C4.next b4
            have P5 := P4.next b4
            have t5 := Ext.trans t4 b4
            clear C4 P4 t4
            have O5 := O4.next b4
            have HOY5 := Lib.hid (HOY4.out.below b4)
            have HOG5 := Lib.hid (HOG4.out.below b4)
            clear O4 HOY4 HOG4 b4
            have c5 := C5.cell
            have p5 := P5.cell
            go_wp2_with fail
            refine (rmayp_any _ ⟨id, m, c, r, l, h⟩ ys gs A ca B cb n D dc ds w5 (HY.out.below t5) (HG.out.below t5) (HD.out.below t5).bytes_bs).mono ?_
            rintro e w6 ⟨⟨a2, v2, rfl, hm2⟩, b5⟩
            have HM2 := Lib.hid hm2
            clear hm2 c5 p5
            have C6 := C5.next b5
            have P6 := P5.next b5
            have t6 := Ext.trans t5 b5
            clear C5 P5 t5
            have O6 := O5.next b5
            have HOY6 := Lib.hid (HOY5.out.below b5)
            have HOG6 := Lib.hid (HOG5.out.below b5)
            clear O5 HOY5 HOG5 b5
            have c6 := C6.cell
            have o6 := O6.cell
            go_wp2_with fail
            refine (scrash_any (fun _ => True) ⟨id, m, c, r, l, h⟩ ys gs A' c' B' d' E ec bl w6 HOY6.out.tt HOG6.out.tt (HB.out.below t6).tt).mono ?_
            rintro e w7 ⟨⟨v3, X', cx, rfl, hcr1, rx⟩, b6⟩
            have HC1 := Lib.hid hcr1
            clear hcr1 c6 o6
            have lc := C6.lt
            have lp := P6.lt
            have C7 := C6.next b6
            have P7 := P6.next b6
            have t7 := Ext.trans t6 b6
            clear C6 P6 t6
            have O7 := O6.next b6
            have HOY7 := Lib.hid (HOY6.out.below b6)
            have HOG7 := Lib.hid (HOG6.out.below b6)
            have hlh : w6.heap.size ≤ w7.heap.size := b6.size
            have l12 := O6.lt
            have HLC := Lib.hid (And.intro lc lp)
            clear lc lp
            clear O6 HOY6 HOG6 b6
            go_upto_region 12 with fail
            have X8 := BoxOf.new w7 #[.slice X' (crashVal v3 bl).length cx, .slice none 0 0] 28
            have b7 := Ext.alloc (Below.refl w7.heap.size w7) (.cells #[.slice X' (crashVal v3 bl).length cx, .slice none 0 0] 28)
            have C8 := C7.alloc (.cells #[.slice X' (crashVal v3 bl).length cx, .slice none 0 0] 28)
            have P8 := P7.alloc (.cells #[.slice X' (crashVal v3 bl).length cx, .slice none 0 0] 28)
            have t8 := Ext.trans t7 b7
            clear C7 P7 t7
            have O8 := O7.next b7
            have HOY8 := Lib.hid (HOY7.out.below b7)
            have HOG8 := Lib.hid (HOG7.out.below b7)
            have rx8 := rx.below b7
            have hsx := shp_new rx b7
            have HRX := Lib.hid rx8
            have HSX := Lib.hid hsx
            obtain ⟨g17, hg17⟩ : ∃ z : Nat, z = w7.heap.size := ⟨_, rfl⟩
            have h78 := b7.size
            rw [← hg17] at X8 ⊢
            have H17 := Lib.hid (And.intro hg17 h78)
            clear hg17 rx rx8 hsx O7 HOY7 HOG7 b7 h78
            generalize w7.alloc (.cells #[.slice X' (crashVal v3 bl).length cx, .slice none 0 0] 28) = w8 at *
            have c8 := C8.cell
            have p8 := P8.cell
            go_wp2_with fail
            refine (rcrash_any S ⟨id, m, c, r, l, h⟩ ys gs A ca B cb E ec bl w8 (HY.out.below t8) (HG.out.below t8) (HB.out.below t8)).mono ?_
            rintro e w9 ⟨⟨v4, Y', cy, rfl, hcr2, ry⟩, b8⟩
            obtain rfl := HC1.out.one hcr2
            clear hcr2 c8 p8
            have C9 := C8.next b8
            have P9 := P8.next b8
            have t9 := Ext.trans t8 b8
            clear C8 P8 t8
            have O9 := O8.next b8
            have X9 := X8.next b8
            have HOY9 := Lib.hid (HOY8.out.below b8)
            have HOG9 := Lib.hid (HOG8.out.below b8)
            have HRX9 := Lib.hid (HRX.out.below b8)
            have HSX9 := Lib.hid (HSX.out.below b8)
            have h89 := b8.size
            clear O8 X8 HOY8 HOG8 HRX HSX b8
            go_upto_region 13 with fail
            have Y10 := BoxOf.new w9 #[.slice Y' (crashVal v3 bl).length cy, .slice none 0 0] 28
            have b9 := Ext.alloc (Below.refl w9.heap.size w9) (.cells #[.slice Y' (crashVal v3 bl).length cy, .slice none 0 0] 28)
            have C10 := C9.alloc (.cells #[.slice Y' (crashVal v3 bl).length cy, .slice none 0 0] 28)
            have P10 := P9.alloc (.cells #[.slice Y' (crashVal v3 bl).length cy, .slice none 0 0] 28)
            have t10 := Ext.trans t9 b9
            clear C9 P9 t9
            have O10 := O9.next b9
            have X10 := X9.next b9
            have HOY10 := Lib.hid (HOY9.out.below b9)
            have HOG10 := Lib.hid (HOG9.out.below b9)
            have HRX10 := Lib.hid (HRX9.out.below b9)
            have HSX10 := Lib.hid (HSX9.out.below b9)
            have HRY10 := Lib.hid (ry.below b9)
            obtain ⟨g19, hg19⟩ : ∃ z : Nat, z = w9.heap.size := ⟨_, rfl⟩
            have h910 := b9.size
            rw [← hg19] at Y10 ⊢
            have H19 := Lib.hid (And.intro hg19 (And.intro h89 h910))
            clear hg19 ry O9 X9 HOY9 HOG9 HRX9 HSX9 b9 h89 h910
            generalize w9.alloc (.cells #[.slice Y' (crashVal v3 bl).length cy, .slice none 0 0] 28) = w10 at *
            have x10 := X10.cell
            have y10 := Y10.cell
            obtain ⟨hae, hve⟩ := HM1.out.one HM2.out
            subst hae hve
            have HSM := Lib.hid (rsame_any (fun _ => True) (fun _ => True) (crashVal v3 bl) [] X' cx none 0 (crashVal v3 bl) [] Y' cy none 0 w10 HRX10.out.tt (rdin_nilG _ _) HRY10.out.tt (rdin_nilG _ _))
            go_wp2_with fail
            refine HSM.out.mono ?_
            rintro e w11 ⟨⟨bt, rfl, hbt⟩, b10⟩
            obtain rfl : bt = true := hbt.2 (by first | exact ⟨rfl, rfl⟩ | simp)
            clear hbt HSM x10 y10
            have C11 := C10.next b10
            have P11 := P10.next b10
            have t11 := Ext.trans t10 b10
            clear C10 P10 t10
            have O11 := O10.next b10
            have X11 := X10.next b10
            have Y11 := Y10.next b10
            have HOY11 := Lib.hid (HOY10.out.below b10)
            have HOG11 := Lib.hid (HOG10.out.below b10)
            have HSX11 := Lib.hid (HSX10.out.below b10)
            have HRY11 := Lib.hid (HRY10.out.below b10)
            have h1011 := b10.size
            have hhi : Hid (w7.heap.size ≤ w11.heap.size ∧ w8.heap.size ≤ w9.heap.size) := by
              obtain ⟨_, h1⟩ := H17.out
              obtain ⟨_, h2, h3⟩ := H19.out
              show _ ∧ _
              omega
            clear O10 X10 Y10 HOY10 HOG10 HSX10 HRY10 HRX10 b10 h1011
            have x11 := X11.cell
            go_wp2_with fail
            refine (turn_any w6.heap.size w7.heap.size X' (crashVal v3 bl).length cx none 0 0 w11 HSX11.out ⟨[], rdin_nilG _ _⟩ hlh hhi.out.1).mono ?_
            rintro e w12 ⟨⟨vt, rfl⟩, hw⟩
            have hlc := HLC.out
            have h12 := H12.out
            have h17 := H17.out
            have h19 := H19.out
            have C12 := C11.within hw (.inl hlc.1)
            have P12 := P11.within hw (.inl hlc.2)
            have O12 := O11.within hw (.inl l12)
            have X12 := X11.within hw (.inr (by omega))
            have Y12 := Y11.within hw (.inr (by have := hhi.out; omega))
            have t12 := Below.trans t11 (Below.mono hw.below (by omega))
            have HOY12 := Lib.hid (HOY11.out.within hw (fun b hb => .inl (by have := hb.2; omega)))
            have HOG12 := Lib.hid (HOG11.out.within hw (fun b hb => .inl (by have := hb.2; omega)))
            have HRY12 := Lib.hid (HRY11.out.within hw (fun b hb => .inr (by have := hb.1; omega)))
            clear C11 P11 O11 X11 Y11 t11 HOY11 HOG11 HRY11 HSX11 hw hlc h12 h17 h19 x11
            have c12 := C12.cell
            have p12 := P12.cell
            go_wp2_with fail
            refine (rcrash_any S ⟨id, m, c, r, l, h⟩ ys gs A ca B cb E ec bl w12 (HY.out.below t12) (HG.out.below t12) (HB.out.below t12)).mono ?_
            rintro e w13 ⟨⟨v5, Z', cz, rfl, hcr3, rz⟩, b12⟩
            obtain rfl := HC1.out.one hcr3
            clear hcr3 c12 p12
            have C13 := C12.next b12
            have P13 := P12.next b12
            have t13 := Ext.trans t12 b12
            clear C12 P12 t12
            have O13 := O12.next b12
            have Y13 := Y12.next b12
            have HOY13 := Lib.hid (HOY12.out.below b12)
            have HOG13 := Lib.hid (HOG12.out.below b12)
            have HRY13 := Lib.hid (HRY12.out.below b12)
            clear O12 Y12 X12 HOY12 HOG12 HRY12 b12
            go_upto_region 17 with fail
            have Z14 := BoxOf.new w13 #[.slice Z' (crashVal v3 bl).length cz, .slice none 0 0] 28
            have b13 := Ext.alloc (Below.refl w13.heap.size w13) (.cells #[.slice Z' (crashVal v3 bl).length cz, .slice none 0 0] 28)
            have C14 := C13.alloc (.cells #[.slice Z' (crashVal v3 bl).length cz, .slice none 0 0] 28)
            have P14 := P13.alloc (.cells #[.slice Z' (crashVal v3 bl).length cz, .slice none 0 0] 28)
            have t14 := Ext.trans t13 b13
            clear C13 P13 t13
            have O14 := O13.next b13
            have Y14 := Y13.next b13
            have HOY14 := Lib.hid (HOY13.out.below b13)
            have HOG14 := Lib.hid (HOG13.out.below b13)
            have HRY14 := Lib.hid (HRY13.out.below b13)
            have HRZ14 := Lib.hid (rz.below b13)
            obtain ⟨g21, hg21⟩ : ∃ z : Nat, z = w13.heap.size := ⟨_, rfl⟩
            rw [← hg21] at Z14 ⊢
            clear hg21 rz O13 Y13 HOY13 HOG13 HRY13 b13
            generalize w13.alloc (.cells #[.slice Z' (crashVal v3 bl).length cz, .slice none 0 0] 28) = w14 at *
            have o14 := O14.cell
            have p14 := P14.cell
            have HSM := Lib.hid (rsame_any (fun _ => True) (fun _ => True) ys gs A' c' B' d' ys gs A ca B cb w14 HOY14.out.tt HOG14.out.tt (HY.out.below t14).tt (HG.out.below t14).tt)
            go_wp2_with fail
            refine HSM.out.mono ?_
            rintro e w15 ⟨⟨bt, rfl, hbt⟩, b14⟩
            obtain rfl : bt = true := hbt.2 (by first | exact ⟨rfl, rfl⟩ | simp)
            clear hbt HSM o14 p14
            have t15 := Ext.trans t14 b14
            have y15 := (Y14.next b14).cell
            have z15 := (Z14.next b14).cell
            have HSN := Lib.hid (rsame_any (fun _ => True) (fun _ => True) (crashVal v3 bl) [] Y' cy none 0 (crashVal v3 bl) [] Z' cz none 0 w15 (HRY14.out.below b14).tt (rdin_nilG _ _) (HRZ14.out.below b14).tt (rdin_nilG _ _))
            go_wp2_with fail
            refine HSN.out.mono ?_
            rintro e w16 ⟨⟨bt, rfl, hbt⟩, b15⟩
            obtain rfl : bt = true := hbt.2 (by first | exact ⟨rfl, rfl⟩ | simp)
            clear hbt HSN y15 z15
            have t16 := Ext.trans t15 b15
            go_wp2
            go_ret
            exact ⟨by first | rfl | simp, t16⟩
theorem int_deep {w : World} {S : Nat → Prop} {v : Value} {x : Ty.int.T} (h : RdIn w S .int x [v]) : ∃ n : Int, v = .int .i64 n ∧ IsInt n := by
  obtain ⟨e, hi⟩ := rdin_int.1 h
  exact ⟨x, (List.cons.inj e).1, hi⟩
theorem sl_deep {w : World} {S : Nat → Prop} {e : Ty} {xs : List e.T} {v : Value} (h : RdIn w S (.sl e) xs [v]) : ∃ A c, v = .slice A xs.length c := by
  obtain ⟨A, c, e, _⟩ := rdin_sl.1 h
  exact ⟨A, c, (List.cons.inj e).1⟩
theorem modelleaves_walk (w : World) (c0 : List Value) (x0 : (Ty.st (.prod .u32 (.prod .int (.prod .int (.prod .int (.prod .int (.prod .int .unit))))))).T) (h0 : RdIn w (fun b => b < w.heap.size) (Ty.st (.prod .u32 (.prod .int (.prod .int (.prod .int (.prod .int (.prod .int .unit))))))) x0 c0) (c1 : List Value) (x1 : PlTy.T) (h1 : RdIn w (fun b => b < w.heap.size) PlTy x1 c1) (v2 : Value) (x2 : Ty.int.T) (h2 : RdIn w (fun b => b < w.heap.size) .int x2 [v2]) (v3 : Value) (x3 : (Ty.sl .byte).T) (h3 : RdIn w (fun b => b < w.heap.size) (.sl .byte) x3 [v3]) (v4 : Value) (x4 : (Ty.sl (.sl .byte)).T) (h4 : RdIn w (fun b => b < w.heap.size) (.sl (.sl .byte)) x4 [v4]) :
    Calls Try.prog 3 #[.agg c0.toArray, .agg c1.toArray, v2, v3, v4] w fun e w' => e = .returned (.bool true) ∧ Below w.heap.size w w' := by
  obtain ⟨x, hx⟩ := cfg_deep h0
  rw [hx]
  obtain ⟨ys, gs, vy, vg, rfl, rfl, hy, hg⟩ := plain_view h1
  obtain ⟨A, ca, rfl⟩ := sl_deep hy
  obtain ⟨B, cb, rfl⟩ := sl_deep hg
  obtain ⟨n, rfl, _⟩ := int_deep h2
  obtain ⟨D, dc, rfl⟩ := sl_deep h3
  obtain ⟨E, ec, rfl⟩ := sl_deep h4
  exact leaves_core _ x ys gs A ca B cb n D dc x3 E ec x4 w hy hg h3 h4
end Go.Proofs.Ytclbihcggjjgaaa
