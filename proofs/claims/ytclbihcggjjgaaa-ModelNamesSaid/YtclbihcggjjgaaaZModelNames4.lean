/- What this claim needs of my texts, merged (part 4). -/
import Derived.Test.YtclbihcggjjgaaaZModelNames3
/- Layer 30 (model): the program: a request ends, in one's own memory. -/
namespace Go.Proofs.Ytclbihcggjjgaaa
open Go Go.RowKit
set_option linter.unusedSimpArgs false
set_option linter.unusedVariables false

/-- .. with a value that is new -/
def EStV (By0 : Nat → Prop) (lo R : Nat) (B : Option Addr) (d : Nat) (s : Ys × List GoTy.T) (v : List UInt8) (u : Value) (w w' : World) : Prop :=
  ∃ By : Nat → Prop, (∀ b, By0 b → By b) ∧ (∀ b, By b → NewB lo w' b) ∧ Kp lo w w' ∧ MayS w' By lo R s.1 ∧ GoS w' By lo B d s.2 ∧ (∀ b, By0 b → w'.heap[b]? = w.heap[b]?) ∧ RdIn w' By (.sl .byte) v [u]
theorem ESt.val {By0 : Nat → Prop} {lo R : Nat} {B : Option Addr} {d : Nat} {s : Ys × List GoTy.T} {v : List UInt8} {u : Value} {w w' w'' : World} (h : ESt By0 lo R B d s w w') (hb : Below w'.heap.size w' w'') (hlo : lo ≤ w'.heap.size) (hr : RdIn w'' (NewB w'.heap.size w'') (.sl .byte) v [u]) : EStV By0 lo R B d s v u w w'' := by
  obtain ⟨By, h1, h2, h3, h4, h5, h6⟩ := h
  have hlt : ∀ b, By b → b < w'.heap.size := fun b hb => (h2 b hb).2.1
  have hn : ∀ b, b < w'.heap.size → (By b ∨ NewB w'.heap.size w'' b) → By b := fun b hb h => h.elim id (fun h => by have := h.1; omega)
  refine ⟨fun b => By b ∨ NewB w'.heap.size w'' b, fun b hb => .inl (h1 b hb), fun b hB => ?_, h3.trans (Kp.of_below hb hlo), h4.mono hb hlt (fun _ h => .inl h) hn, h5.mono hb hlt (fun _ h => .inl h) hn, fun b hB => (hb.block b (hlt b (h1 b hB))).trans (h6 b hB), hr.mono fun b hb => .inr hb⟩
  rcases hB with hB | hB
  · exact newB_next (h2 b hB) hb.size (hb.block b (hlt b hB))
  · exact ⟨by have := hB.1; omega, hB.2⟩
theorem EStV.next {By0 : Nat → Prop} {lo R : Nat} {B : Option Addr} {d : Nat} {s : Ys × List GoTy.T} {v : List UInt8} {u : Value} {w w' w'' : World} (h : EStV By0 lo R B d s v u w w') (hb : Below w'.heap.size w' w'') (hlo : lo ≤ w'.heap.size) : EStV By0 lo R B d s v u w w'' := by
  obtain ⟨By, h1, h2, h3, h4, h5, h6, h7⟩ := h
  have hlt : ∀ b, By b → b < w'.heap.size := fun b hb => (h2 b hb).2.1
  exact ⟨By, h1, fun b hB => newB_next (h2 b hB) hb.size (hb.block b (hlt b hB)), h3.trans (Kp.of_below hb hlo), h4.mono hb hlt (fun _ h => h) (fun _ _ h => h), h5.mono hb hlt (fun _ h => h) (fun _ _ h => h), fun b hB => (hb.block b (hlt b (h1 b hB))).trans (h6 b hB), h7.below hb⟩
/-- the value comes behind a block's -/
theorem EStV.push {By0 : Nat → Prop} {lo R : Nat} {B : Option Addr} {d : Nat} {s : Ys × List GoTy.T} {v : List UInt8} {u : Value} {w w1 : World} (h : EStV By0 lo R B d s v u w w1) {b : Nat} (hb : b < s.1.length) :
    ∃ g o c, w1.cell? ⟨R, b, none⟩ = some (.slice (some ⟨g, o, none⟩) (s.1[b]).length c) ∧ ∃ By : Nat → Prop, RowS w1 By lo g o c s.1[b] ∧ RdIn w1 By (.sl .byte) v [u] ∧ (∀ b, By b → b < w1.heap.size) ∧
      ∀ w2 g' o' c', RowS w2 By lo g' o' c' (s.1[b] ++ [v]) → (g' = g ∨ w1.heap.size ≤ g') → w1.grownBy w2 (some g) → ∃ cs : Array Value, BoxOf w2 R cs 30 ∧ b < cs.size ∧
        ESt By0 lo R B d (pushY b v s.1, s.2) w (w2.setCell ⟨R, b, none⟩ (.slice (some ⟨g', o', none⟩) ((s.1[b]).length + 1) c')) ∧ Kp lo w1 (w2.setCell ⟨R, b, none⟩ (.slice (some ⟨g', o', none⟩) ((s.1[b]).length + 1) c')) := by
  obtain ⟨By, h1, h2, h3, h4, h5, h6, h7⟩ := h
  obtain ⟨cells, g, o, c, q1, q2, q3, q4, q5⟩ := h4.row hb
  have hlt : ∀ b, By b → b < w1.heap.size := fun b hb => (h2 b hb).2.1
  refine ⟨g, o, c, by rw [q1.cell]; exact q3, By, q4, h7, hlt, fun w2 g' o' c' hrow hg' hgr => ?_⟩
  obtain ⟨cur, k1, k2, k3, k4, k5, k6⟩ := q4
  have hgR : g ≠ R := box_diff k1 q1 (by decide)
  have r1 : BoxOf w2 R cells 30 := q1.grown hgr (fun e => hgR (Option.some.inj e))
  have hbc : b < cells.size := by have := (List.getElem?_eq_some_iff.1 q3).1; rwa [Array.length_toList] at this
  have hf : ∀ k, k < w1.heap.size → k ≠ R → k ≠ g → (w2.setCell ⟨R, b, none⟩ (.slice (some ⟨g', o', none⟩) ((s.1[b]).length + 1) c')).heap[k]? = w1.heap[k]? := fun k hk h1 h2 =>
    (Below.heap_setCell _ _ _ _ h1).trans (hgr.block k hk (fun e => h2 (Option.some.inj e)))
  have hB2 : ∀ k, By k → (w2.setCell ⟨R, b, none⟩ (.slice (some ⟨g', o', none⟩) ((s.1[b]).length + 1) c')).heap[k]? = w1.heap[k]? := fun k hk => hf k (hlt k hk) (fun e => q2.2 (e ▸ hk)) (fun e => k5.2 (e ▸ hk))
  have hs := msize w2 ⟨R, b, none⟩ (.slice (some ⟨g', o', none⟩) ((s.1[b]).length + 1) c')
  have hsz : w1.heap.size ≤ (w2.setCell ⟨R, b, none⟩ (.slice (some ⟨g', o', none⟩) ((s.1[b]).length + 1) c')).heap.size := by rw [hs]; exact hgr.size
  have kp : Kp lo w1 (w2.setCell ⟨R, b, none⟩ (.slice (some ⟨g', o', none⟩) ((s.1[b]).length + 1) c')) := by
    refine ⟨⟨hgr.os, hgr.tape, hgr.output, hsz, fun k hk => ?_⟩, fun k cs t h1 h2 h3 h4 => ?_⟩
    · by_cases hk2 : k < w1.heap.size
      · exact hf k hk2 (fun e => by have := q2.1; omega) (fun e => by have := k5.1; omega)
      · have := q1.lt
        have := q2.1
        omega
    · exact BoxOf.but (BoxOf.but h1 (But.grown k1 hgr) h3) (But.setCell r1 _) h2
  refine ⟨cells, r1, hbc, ⟨By, h1, fun k hk => newB_next (h2 k hk) hsz (hB2 k hk), h3.trans kp, ?_, ?_, fun k hk => (hB2 k (h1 k hk)).trans (h6 k hk)⟩, kp⟩
  · have e1 : pushY b v s.1 = s.1.set b (s.1[b] ++ [v]) := by unfold pushY; rw [getD_lt hb]
    rw [e1]
    refine q5 _ By g' o' c' (s.1[b] ++ [v]) (fun k hk h1 h2 => hf k hk h1 h2) ?_ ?_ hg' (fun k hk => ⟨hlt k hk, hk⟩) (fun k _ h => h)
    · rw [List.length_append, List.length_singleton]
      exact mbox_self r1 b _
    · obtain ⟨cur', d1, d2, d3, d4, d5, d6⟩ := hrow
      have hgR' : g' ≠ R := box_diff d1 r1 (by decide)
      refine RowS.frame ⟨cur', d1, d2, d3, d4, d5, d6⟩ (Below.heap_setCell _ _ _ _ hgR') (fun k hk => Below.heap_setCell _ _ _ _ (fun e => q2.2 (by have e' : k = R := e; exact e' ▸ hk))) (fun _ h => h) d5.2
  · have g1 : GoS w2 By lo B d s.2 := h5.but (t := 29) (by decide) (by decide) (But.grown k1 hgr) (fun k hk => hgr.block k (hlt k hk) (fun e => k5.2 ((Option.some.inj e) ▸ hk))) (fun _ h => h) (fun _ _ h => h)
    exact g1.but (t := 30) (by decide) (by decide) (But.setCell r1 _) (fun k hk => Below.heap_setCell _ _ _ _ (fun e => q2.2 (by have e' : k = R := e; exact e' ▸ hk))) (fun _ h => h) (fun _ _ h => h)
/-- the length of a block's row -/
theorem MayS.cell {w : World} {By : Nat → Prop} {lo R : Nat} {ys : Ys} (h : MayS w By lo R ys) {b : Nat} (hb : b < ys.length) : ∃ g o c, w.cell? ⟨R, b, none⟩ = some (.slice (some ⟨g, o, none⟩) (ys[b]).length c) := by
  obtain ⟨cells, g, o, c, q1, q2, q3, _⟩ := h.row hb
  exact ⟨g, o, c, by rw [q1.cell]; exact q3⟩
/-- a block's value -/
theorem MayS.last {w : World} {By : Nat → Prop} {lo R : Nat} {ys : Ys} (h : MayS w By lo R ys) {b : Nat} (hb : b < ys.length) (h0 : 0 < (ys[b]).length) : ∃ g o c A' c', w.cell? ⟨R, b, none⟩ = some (.slice (some ⟨g, o, none⟩) (ys[b]).length c) ∧ w.cell? ⟨g, o + ((ys[b]).length - 1), none⟩ = some (.slice A' ((ys.getD b []).getLastD []).length c') ∧ RdIn w By (.sl .byte) ((ys.getD b []).getLastD []) [.slice A' ((ys.getD b []).getLastD []).length c'] := by
  obtain ⟨cells, g, o, c, q1, q2, q3, ⟨cur, k1, k2, k3, k4, k5, k6⟩, _⟩ := h.row hb
  obtain ⟨u, e1, e2⟩ := k6 ((ys[b]).length - 1) (by omega)
  have e3 : (ys.getD b []).getLastD [] = (ys[b])[(ys[b]).length - 1] := by
    rw [getD_lt hb, List.getLastD_eq_getLast?, List.getLast?_eq_getElem?, List.getElem?_eq_getElem (by omega)]
    rfl
  obtain ⟨A', c', rfl, _⟩ := e2.bytes
  refine ⟨g, o, c, A', c', by rw [q1.cell]; exact q3, ?_, ?_⟩
  · rw [k1.cell, e1, e3]
  · rw [e3]; exact e2

/-! ### what a read tells -/
def readS (s : Ys × List GoTy.T) (a : Nat) : Nat → List UInt8
  | 0 => []
  | i + 1 => readS s a i ++ (s.1.getD (a + i) []).getLastD []
theorem endS_read {k : Int} (hk : kWrites k = false) (bs : List UInt8) (a : Nat) (s : Ys × List GoTy.T) : ∀ i, endS k bs a i s = some (s, readS s a i)
  | 0 => rfl
  | i + 1 => by
    show (endS k bs a i s).bind (stepS k bs a i) = _
    rw [endS_read hk bs a s i]
    show stepS k bs a i (s, readS s a i) = _
    unfold stepS
    rw [hk]
    rfl
theorem endS_none {k : Int} {bs : List UInt8} {a : Nat} {s : Ys × List GoTy.T} {i : Nat} (h : endS k bs a i s = none) : ∀ j, i ≤ j → endS k bs a j s = none
  | 0, hj => by have : i = 0 := by omega
                subst this
                exact h
  | j + 1, hj => by
    by_cases e : i = j + 1
    · rw [← e]; exact h
    · show (endS k bs a j s).bind (stepS k bs a j) = none
      rw [endS_none h j (by omega)]
      rfl
/-- what 'end' answers -/
def SendIs (By : Nat → Prop) (lo R : Nat) (B : Option Addr) (d : Nat) (r : Option ((Ys × List GoTy.T) × List UInt8)) (e : Ending) (w w' : World) : Prop :=
  (r = none ∧ e = .returned (.tuple #[.slice none 0 0, .bool false])) ∨ ∃ t dat D q, r = some (t, dat) ∧ e = .returned (.tuple #[.slice D dat.length q, .bool true]) ∧ RdIn w' (NewB lo w') (.sl .byte) dat [.slice D dat.length q] ∧ ESt By lo R B d t w w'
end Go.Proofs.Ytclbihcggjjgaaa
/- Layer 30 (model): the program: a request ends, in one's own memory: the walk. -/
namespace Go.Proofs.Ytclbihcggjjgaaa
open Go Go.RowKit
set_option linter.unusedSimpArgs false
set_option linter.unusedVariables false

set_option maxRecDepth 100000 in
set_option maxHeartbeats 1000000 in
theorem send_any (x : Cfg) (By : Nat → Prop) (lo R cR : Nat) (B : Option Addr) (d : Nat) (s : Ys × List GoTy.T) (pb : Nat) (nu : Int) (ki : UInt8) (a y : Nat) (bs : List UInt8) (ms : List Int) (Ab : Option Addr) (cb : Nat) (Am : Option Addr) (cm : Nat) (w : World)
    (hP : BoxOf w pb #[.slice (some ⟨R, 0, none⟩) s.1.length cR, .slice B s.2.length d] 28) (hM : MayS w By lo R s.1) (hG : GoS w By lo B d s.2) (hBy : ∀ b, By b → NewB lo w b) (hlo : lo ≤ w.heap.size) (hok : PlainOk x s.1 s.2) (hy : y ≤ 8) (hay : a + y ≤ s.1.length) (hbs : kBytes (ki.toNat : Int) = true → y * 128 ≤ bs.length)
    (hml : ms.length ≤ s.1.length) (hmk : ∀ q (hq : q < ms.length), ∃ hq' : q < s.1.length, 0 ≤ ms[q] ∧ ms[q] < ((s.1[q]).length : Int)) (hd : RdIn w By (.sl .byte) bs [.slice Ab bs.length cb]) (hm : RdIn w By (.sl .int) ms [.slice Am ms.length cm]) :
    Calls Try.prog 59 #[.pointer (some ⟨pb, 0, none⟩), .agg #[.int .i64 nu, .int .u8 (ki.toNat : Int), .int .i64 (a : Int), .int .i64 (y : Int), .slice Ab bs.length cb, .slice Am ms.length cm]] w fun e w' => SendIs By lo R B d (endS (ki.toNat : Int) bs a y (marksS ms ms.length s)) e w w' ∧ Kp lo w w' := by
  have HES := Lib.hid (ESt.start hM hG hBy)
  have HMS := Lib.hid (marksS_ok hok hml hmk)
  have HMK := Lib.hid hmk
  have HML := Lib.hid hml
  have HOK := Lib.hid hok
  have HYS := Lib.hid hok.short
  have HAY := Lib.hid (And.intro hy hay)
  have HBS := Lib.hid hbs
  have HD := Lib.hid hd
  have HM := Lib.hid hm
  have HLO := Lib.hid hlo
  have HBY := Lib.hid hBy
  have HMX := Lib.hid (mark_max hm)
  clear hM hG hBy hok hml hmk hy hay hbs hd hm hlo
  have X0 := BoxOf.new w #[.int .i64 nu, .int .u8 (ki.toNat : Int), .int .i64 (a : Int), .int .i64 (y : Int), .slice Ab bs.length cb, .slice Am ms.length cm] 64
  have t0 := Ext.alloc (Below.refl w.heap.size w) (.cells #[.int .i64 nu, .int .u8 (ki.toNat : Int), .int .i64 (a : Int), .int .i64 (y : Int), .slice Ab bs.length cb, .slice Am ms.length cm] 64)
  have P0 := hP.next t0
  go_enter Try.func59, Try.ntmps59
  go_upto_region 1 with fail
  have HE0 := Lib.hid (HES.out.next t0 HLO.out)
  have HKP := Lib.hid (Kp.of_below (lo := lo) t0 HLO.out)
  have HT0 := Lib.hid t0
  obtain ⟨il, hil, hl0, hl1, hl2⟩ := minfo_bytes
  obtain ⟨gx, hgx⟩ : ∃ z : Nat, z = w.heap.size := ⟨_, rfl⟩
  rw [← hgx] at X0 ⊢
  have HGX := Lib.hid hgx
  clear hgx t0
  generalize w.alloc (.cells #[.int .i64 nu, .int .u8 (ki.toNat : Int), .int .i64 (a : Int), .int .i64 (y : Int), .slice Ab bs.length cb, .slice Am ms.length cm] 64) = W at *
  have x0 := X0.cell
  go_wp2
  go_loopw [16] (fun i wr => ∃ (j : Nat), j ≤ ms.length ∧ i = .int .i64 j ∧ ESt By lo R B d (marksS ms j s) w wr ∧ Kp lo W wr) (fun i _ => ms.length - (intOf i).toNat)
  case atStart => exact ⟨0, by omega, rfl, HE0.out, Kp.refl _ _⟩
  case round =>
    obtain ⟨j, hj, rfl, hE, hK⟩ := hrel
    by_cases hlt : j < ms.length
    · have hmr : RdIn wr By (.sl .int) ms [.slice Am ms.length cm] := by
        obtain ⟨By', h1, h2, h3, h4, h5, h6⟩ := hE
        exact HM.out.frame h6
      obtain ⟨mb, mo, rfl, m1, m2⟩ := mark_at hmr hlt
      obtain ⟨hq', m3, m4⟩ := HMK.out j hlt
      obtain ⟨k1, k2, k3, k4, k5⟩ := HMS.out j hj
      have hjs : j < (marksS ms j s).1.length := by rw [k2]; exact hq'
      have e1 : (marksS ms j s).1[j] = s.1[j] := by rw [← getD_lt hjs, k4 j (Nat.le_refl _), getD_lt hq']
      have e2 : ms.getD j 0 = ms[j] := by rw [List.getD_eq_getElem?_getD, List.getElem?_eq_getElem hlt]; rfl
      obtain ⟨mn, hmn⟩ : ∃ mn : Nat, ms[j] = (mn : Int) := ⟨(ms[j]).toNat, by omega⟩
      have hPr := (hK.box _ _ _ P0 (by decide) (by decide) (by decide))
      have HST : Hid (marksS ms (j + 1) s = dropS j mn (marksS ms j s)) := by
        show dropS j (ms.getD j 0).toNat (marksS ms j s) = _
        rw [e2, hmn, Int.toNat_natCast]
      have hrow := (HOK.out.row hq').2.1
      have hsz := hE
      have hlr : lo ≤ wr.heap.size := by have := hK.below.size; have := HT0.out.size; have := HLO.out; omega
      have hPr' : BoxOf wr pb #[.slice (some ⟨R, 0, none⟩) (marksS ms j s).1.length cR, .slice B (marksS ms j s).2.length d] 28 := by rw [k2, k3]; exact hPr
      have HC := Lib.hid (sdrop_est hE hlr hPr' k1.fits hjs (many := mn) (by rw [e1]; rw [hmn] at m4; omega))
      have HWJ := next_wrap HMX.out hlt
      have HLJ := Lib.hid hlt
      have HKR := Lib.hid hK
      rw [hmn] at m1
      clear hE hK hmr m2 m3 m4 k1 k2 k3 k4 k5 e1 e2 hmn hPr hPr' hrow hsz hq' hjs hj hlt
      go_wp2_with fail
      refine HC.out.mono ?_
      rintro e w2 ⟨⟨v, rfl⟩, hE2, hK2⟩
      have HE2 := Lib.hid (hE2.cast HST.out.symm)
      have HK2 := Lib.hid (HKR.out.trans hK2)
      clear hE2 hK2 m1
      go_wp2
      go_roundw
      case rel => exact ⟨j + 1, HLJ.out, by first | exact round_same HWJ | go_num, HE2.out, HK2.out⟩
      case measure => first | exact round_less HWJ HLJ.out | (have h := HLJ.out; simp [intOf]; omega)
    · have hjl : j = ms.length := by omega
      have HJL := Lib.hid hjl
      have hok1 := (HMS.out ms.length (Nat.le_refl _)).1
      have hlen1 := (HMS.out ms.length (Nat.le_refl _)).2.1
      have hlen2 := (HMS.out ms.length (Nat.le_refl _)).2.2.1
      rw [hjl] at hE
      have hX1 := hK.box _ _ _ X0 (by decide) (by decide) (by decide)
      have hP1 := hK.box _ _ _ P0 (by decide) (by decide) (by decide)
      have hPr : BoxOf wr pb #[.slice (some ⟨R, 0, none⟩) (marksS ms ms.length s).1.length cR, .slice B (marksS ms ms.length s).2.length d] 28 := by rw [hlen1, hlen2]; exact hP1
      have hlr : lo ≤ wr.heap.size := by have := hK.below.size; have := HT0.out.size; have := HLO.out; omega
      have hbsr : RdIn wr By (.sl .byte) bs [.slice Ab bs.length cb] := by
        obtain ⟨By', h1, h2, h3, h4, h5, h6⟩ := hE
        exact HD.out.frame h6
      have HA1 : Hid (a + y ≤ (marksS ms ms.length s).1.length) := by show _ ≤ _; rw [hlen1]; exact HAY.out.2
      have HOK1 := Lib.hid hok1
      have HE1 := Lib.hid hE
      have HK1 := Lib.hid (HKP.out.trans hK)
      have HPR := Lib.hid hPr
      have HLR := Lib.hid hlr
      have HBR := Lib.hid hbsr
      generalize hs1 : marksS ms ms.length s = s1 at *
      have HS1 := Lib.hid hs1
      clear hs1
      clear hok1 hlen1 hlen2 hE hP1 hlr hbsr hjl hK HMS HES HE0
      have x1 := hX1.cell
      rcases Bool.eq_false_or_eq_true (kWrites (ki.toNat : Int)) with hkw | hkw
      · have HKW := Lib.hid hkw
        clear hkw
        go_wp2
        clear hlt hj x1 hPr
        go_loopw [4, 29] (fun dv i w2 => ∃ (q : Nat) (t : Ys × List GoTy.T), q ≤ y ∧ i = .int .i64 q ∧ dv = .slice none 0 0 ∧ Hid (endS (ki.toNat : Int) bs a q s1 = some (t, [])) ∧ ESt By lo R B d t w w2 ∧ BoxOf w2 gx #[.int .i64 nu, .int .u8 (ki.toNat : Int), .int .i64 (a : Int), .int .i64 (y : Int), .slice Ab bs.length cb, .slice Am ms.length cm] 64 ∧ BoxOf w2 pb #[.slice (some ⟨R, 0, none⟩) t.1.length cR, .slice B t.2.length d] 28 ∧ Kp lo w w2) (fun _ i _ => y - (intOf i).toNat)
        case atStart => exact ⟨0, s1, by omega, rfl, rfl, rfl, HE1.out, hX1, HPR.out, HK1.out⟩
        case round =>
          obtain ⟨q, t, hq, rfl, rfl, hen, hEt, hXt, hPt, hKt⟩ := hrel
          clear hX1
          by_cases hqy : q < y
          · obtain ⟨hokt, hlt1, hlt2⟩ := endS_ok HOK1.out HA1.out HBS.out q (by omega) _ hen.out
            have hb : a + q < t.1.length := by have := HA1.out; rw [hlt1]; omega
            have hlr : lo ≤ wr.heap.size := by have := hKt.below.size; have := HLO.out; omega
            have hbr : RdIn wr By (.sl .byte) bs [.slice Ab bs.length cb] := by
              obtain ⟨By', h1, h2, h3, h4, h5, h6⟩ := hEt
              exact HD.out.frame h6
            have hsw := swrites_any By (ki.toNat : Int) (a : Int) (y : Int) bs Ab cb q wr hbr (fun hk => by have := HBS.out hk; omega) (by have := HAY.out.1; omega)
            have HSW := Lib.hid hsw
            have HWB : Hid (wrap64 ((a : Int) + (q : Int)) = ((a + q : Nat) : Int)) := by
              show _ = _
              have := HYS.out
              have := HAY.out.2
              rw [IntWalk.wrap64_in _ (by omega)]
              rfl
            have hwb := HWB.out
            have HQL := Lib.hid hqy
            have HEN := Lib.hid hen
            have HOKT := Lib.hid hokt
            have HB := Lib.hid hb
            have HLR2 := Lib.hid hlr
            have HET := Lib.hid hEt
            have HKT := Lib.hid hKt
            have xt := hXt.cell
            have pt := hPt.cell
            clear hsw hen hokt hlt1 hlt2 hEt hKt hbr hlr
            go_wp2_with fail
            refine HSW.out.mono ?_
            rintro e w2 ⟨⟨D, n, c2, rfl, hbl⟩, b2⟩
            have HV := Lib.hid (HET.out.val b2 HLR2.out (hbl HKW.out))
            have hXt2 := hXt.next b2
            have hPt2 := hPt.next b2
            have HKT2 := Lib.hid (HKT.out.trans (Kp.of_below b2 HLR2.out))
            have HB2 := Lib.hid b2
            have HLR3 : Hid (lo ≤ w2.heap.size) := Nat.le_trans HLR2.out b2.size
            rw [HKW.out]
            clear hbl b2 xt pt hXt hPt
            go_upto_region 14 with fail
            have b3 := Ext.alloc (Below.refl w2.heap.size w2) (.cells #[.slice D n c2] 29)
            have HV3 := HV.out.next b3 HLR3.out
            obtain ⟨g, o, c, v0, By', v1, v2, v3, v4⟩ := HV3.push hb
            have hR2 : R < w2.heap.size := by
              obtain ⟨By2, _, _, _, h4, _⟩ := HV.out
              exact h4.lt
            have v5 : w2.cell? ⟨R, a + q, none⟩ = some (.slice (some ⟨g, o, none⟩) (t.1[a + q]'hb).length c) := by
              rw [← v0]; exact (b3.cell (p := ⟨R, a + q, none⟩) hR2).symm
            have HZL : Hid ((t.1[a + q]'hb).length ≤ 512) := (HOKT.out.row hb).2.1
            have e0 : t.1.getD (a + q) [] = t.1[a + q]'hb := getD_lt hb
            have HE0' := Lib.hid e0
            have HV1 := Lib.hid v1
            have HV2 := Lib.hid v2
            have HV3' := Lib.hid v3
            have HV4 := Lib.hid v4
            have HLR4 : Hid (lo ≤ (w2.alloc (.cells #[.slice D n c2] 29)).heap.size) := Nat.le_trans HLR3.out b3.size
            have hXt3 := hXt2.next b3
            have hPt3 := hPt2.next b3
            have HK3 := Lib.hid (HKT2.out.trans (Kp.of_below b3 HLR3.out))
            have hq3 : (w2.alloc (.cells #[.slice D n c2] 29)).cell? ⟨w2.heap.size, 0, none⟩ = some (.slice D n c2) := (BoxOf.new w2 #[.slice D n c2] 29).cell 0
            generalize t.1[a + q]'hb = zs at *
            clear v0 v1 v2 v3 v4 e0 HV HV3 hXt2 hPt2 b3 hR2
            go_upto_region 15 with (at_builtin; refine wpList_pushS rfl (.tmp 67) (.tmp 69) 30 rfl il _ Try.underlying30 hil hl0 hl1 hl2 rfl By' lo g o c zs HV1.out rfl w2.heap.size 1 _ rfl hq3 _ HV2.out HV3'.out (by have := HZL.out; omega) HLR4.out ?_; intro w4 g4 o4 c4 hrow4 hg4 hgr4; obtain ⟨cs4, r4, hb4, hE4, hK4⟩ := HV4.out w4 g4 o4 c4 hrow4 hg4 hgr4; have rf4 := r4.free; have rc4 : w4.cell? ⟨R, a + q, none⟩ = some (cs4[a + q]'hb4) := (by rw [r4.cell, List.getElem?_eq_getElem (by rw [Array.length_toList]; exact hb4)]; rfl); have HE4 := Lib.hid hE4; have HK4 := Lib.hid (HK3.out.trans hK4); have hXt4 := hK4.box _ _ _ hXt3 (by decide) (by decide) (by decide); have hPt4 := hK4.box _ _ _ hPt3 (by decide) (by decide) (by decide); generalize cs4[a + q]'hb4 = old4 at rc4; clear hE4 hK4 hrow4 hg4 hgr4 r4 hb4 hq3)
            generalize w4.setCell ⟨R, a + q, none⟩ (.slice (some ⟨g4, o4, none⟩) (zs.length + 1) c4) = w5 at *
            clear rf4 rc4 HV1 HV2 HV3' HV4 HLR4 HK3 hXt3 hPt3 v5 HET HKT HKT2
            have hlr5 : lo ≤ w5.heap.size := by have := HK4.out.below.size; have := HLO.out; omega
            have hlp : (pushY (a + q) (blk (ki.toNat : Int) bs q) t.1).length = t.1.length := List.length_set
            have hbp : a + q < (pushY (a + q) (blk (ki.toNat : Int) bs q) t.1).length := by rw [hlp]; exact hb
            have hgp : (pushY (a + q) (blk (ki.toNat : Int) bs q) t.1)[a + q]'hbp = zs ++ [blk (ki.toNat : Int) bs q] := by
              have e1 : (pushY (a + q) (blk (ki.toNat : Int) bs q) t.1)[a + q]? = some (t.1.getD (a + q) [] ++ [blk (ki.toNat : Int) bs q]) := List.getElem?_set_self hb
              rw [HE0'.out, List.getElem?_eq_getElem hbp] at e1
              exact Option.some.inj e1
            have x4 := hXt4.cell
            have HWJ := next_wrap (show y ≤ maxLen by have := HAY.out.1; unfold maxLen; omega) hqy
            by_cases hk3 : (ki.toNat : Int) = 3
            · have e3 : ((ki.toNat : Int) == 3) = true := by rw [hk3]; rfl
              have hm5 : ∃ g o c, w5.cell? ⟨R, a + q, none⟩ = some (.slice (some ⟨g, o, none⟩) (zs.length + 1) c) := by
                obtain ⟨By2, _, _, _, h4, _⟩ := HE4.out
                obtain ⟨g, o, c, h⟩ := h4.cell hbp
                rw [hgp, List.length_append, List.length_singleton] at h
                exact ⟨g, o, c, h⟩
              obtain ⟨g5, o5, c5, m5⟩ := hm5
              have HDR := Lib.hid (sdrop_est (cR := cR) (pb := pb) (many := zs.length) HE4.out hlr5 (by rw [show (pushY (a + q) (blk (ki.toNat : Int) bs q) t.1, t.2).1.length = t.1.length from hlp]; exact hPt4) ⟨HOKT.out.few, by rw [show (pushY (a + q) (blk (ki.toNat : Int) bs q) t.1, t.2).1.length = t.1.length from hlp]; exact HOKT.out.short, by rw [show (pushY (a + q) (blk (ki.toNat : Int) bs q) t.1, t.2).1.length = t.1.length from hlp]; exact HOKT.out.fits.2.2⟩ hbp ⟨by rw [show (pushY (a + q) (blk (ki.toNat : Int) bs q) t.1, t.2).1[a + q]'hbp = _ from hgp, List.length_append]; omega, by have := HZL.out; omega⟩)
              have e6 : wrap64 (zs.length : Int) = (zs.length : Int) := by have := HZL.out; exact IntWalk.wrap64_in _ (by omega)
              have HK3 := Lib.hid hk3
              clear hk3 hgp hbp hlp
              go_wp2_with fail
              refine HDR.out.mono ?_
              rintro e w6 ⟨⟨vv, rfl⟩, hE6, hK6⟩
              have HE6 : Hid (ESt By lo R B d (putS (ki.toNat : Int) (a + q) (blk (ki.toNat : Int) bs q) t) w w6) := by
                refine hE6.cast ?_
                unfold putS
                rw [if_pos HK3.out, HE0'.out]
                congr 1
                rw [List.length_append, List.length_singleton]
                omega
              have hX6 := hK6.box _ _ _ hXt4 (by decide) (by decide) (by decide)
              have hP6 := hK6.box _ _ _ hPt4 (by decide) (by decide) (by decide)
              have HK6 := Lib.hid (HK4.out.trans hK6)
              clear hE6 hK6 x4 m5 hXt4 hPt4 HDR hlr5
              have HLT6 : Hid ((putS (ki.toNat : Int) (a + q) (blk (ki.toNat : Int) bs q) t).1.length = t.1.length ∧ (putS (ki.toNat : Int) (a + q) (blk (ki.toNat : Int) bs q) t).2.length = t.2.length) := putS_len _ _ _ _
              have HST6 : Hid (endS (ki.toNat : Int) bs a (q + 1) s1 = if 512 < ((putS (ki.toNat : Int) (a + q) (blk (ki.toNat : Int) bs q) t).1.getD (a + q) []).length then none else some (putS (ki.toNat : Int) (a + q) (blk (ki.toNat : Int) bs q) t, [])) := by
                show (endS (ki.toNat : Int) bs a q s1).bind (stepS (ki.toNat : Int) bs a q) = _
                rw [HEN.out]
                show stepS (ki.toNat : Int) bs a q (t, []) = _
                unfold stepS
                rw [if_pos HKW.out]
              generalize putS (ki.toNat : Int) (a + q) (blk (ki.toNat : Int) bs q) t = t6 at *
              have hb6 : a + q < t6.1.length := by rw [HLT6.out.1]; exact HB.out
              have hm6 : ∃ g o c, w6.cell? ⟨R, a + q, none⟩ = some (.slice (some ⟨g, o, none⟩) (t6.1.getD (a + q) []).length c) := by
                obtain ⟨By2, _, _, _, h4, _⟩ := HE6.out
                obtain ⟨g, o, c, h⟩ := h4.cell hb6
                rw [getD_lt hb6]
                exact ⟨g, o, c, h⟩
              obtain ⟨g6, o6, c6, m6⟩ := hm6
              generalize (t6.1.getD (a + q) []).length = L6 at *
              clear hb6
              rcases Bool.eq_false_or_eq_true (decide ((512 : Int) < (L6 : Int))) with e6 | e6
              · have HBIG : Hid (512 < L6) := by have := of_decide_eq_true e6; show _ < _; omega
                have e6' : decide (512 < L6) = true := decide_eq_true HBIG.out
                go_wp2
                go_ret2
                refine ⟨.inl ⟨?_, rfl⟩, HK6.out⟩
                rw [HS1.out]
                refine endS_none (i := q + 1) ?_ y HQL.out
                rw [HST6.out, if_pos HBIG.out]
              · have HSML : Hid (¬ 512 < L6) := by have := of_decide_eq_false e6; show ¬ _; omega
                have e6' : decide (512 < L6) = false := decide_eq_false HSML.out
                go_wp2
                have HEQ : Hid (endS (ki.toNat : Int) bs a (q + 1) s1 = some (t6, [])) := by
                  show _ = _
                  rw [HST6.out, if_neg HSML.out]
                go_roundw
                case rel => exact ⟨q + 1, t6, HQL.out, by first | exact round_same HWJ | go_num, rfl, HEQ, HE6.out, hX6, by rw [HLT6.out.1, HLT6.out.2]; exact hP6, HK6.out⟩
                case measure => first | exact round_less HWJ HQL.out | (have h := HQL.out; simp [intOf]; omega)
            · have e3 : ((ki.toNat : Int) == 3) = false := by simpa using hk3
              have HE6 : Hid (ESt By lo R B d (putS (ki.toNat : Int) (a + q) (blk (ki.toNat : Int) bs q) t) w w5) := by
                refine HE4.out.cast ?_
                unfold putS
                rw [if_neg hk3]
              have HK3 := Lib.hid hk3
              clear hk3 hgp hbp hlp HE4
              obtain ⟨w6, hw6⟩ : ∃ z : World, z = w5 := ⟨_, rfl⟩
              rw [← hw6] at HE6 x4 hXt4 hPt4 HK4 ⊢
              clear hw6
              have hX6 := hXt4
              have hP6 := hPt4
              have HK6 := HK4
              have HLT6 : Hid ((putS (ki.toNat : Int) (a + q) (blk (ki.toNat : Int) bs q) t).1.length = t.1.length ∧ (putS (ki.toNat : Int) (a + q) (blk (ki.toNat : Int) bs q) t).2.length = t.2.length) := putS_len _ _ _ _
              have HST6 : Hid (endS (ki.toNat : Int) bs a (q + 1) s1 = if 512 < ((putS (ki.toNat : Int) (a + q) (blk (ki.toNat : Int) bs q) t).1.getD (a + q) []).length then none else some (putS (ki.toNat : Int) (a + q) (blk (ki.toNat : Int) bs q) t, [])) := by
                show (endS (ki.toNat : Int) bs a q s1).bind (stepS (ki.toNat : Int) bs a q) = _
                rw [HEN.out]
                show stepS (ki.toNat : Int) bs a q (t, []) = _
                unfold stepS
                rw [if_pos HKW.out]
              generalize putS (ki.toNat : Int) (a + q) (blk (ki.toNat : Int) bs q) t = t6 at *
              have hb6 : a + q < t6.1.length := by rw [HLT6.out.1]; exact HB.out
              have hm6 : ∃ g o c, w6.cell? ⟨R, a + q, none⟩ = some (.slice (some ⟨g, o, none⟩) (t6.1.getD (a + q) []).length c) := by
                obtain ⟨By2, _, _, _, h4, _⟩ := HE6.out
                obtain ⟨g, o, c, h⟩ := h4.cell hb6
                rw [getD_lt hb6]
                exact ⟨g, o, c, h⟩
              obtain ⟨g6, o6, c6, m6⟩ := hm6
              generalize (t6.1.getD (a + q) []).length = L6 at *
              clear hb6
              rcases Bool.eq_false_or_eq_true (decide ((512 : Int) < (L6 : Int))) with e6 | e6
              · have HBIG : Hid (512 < L6) := by have := of_decide_eq_true e6; show _ < _; omega
                have e6' : decide (512 < L6) = true := decide_eq_true HBIG.out
                go_wp2
                go_ret2
                refine ⟨.inl ⟨?_, rfl⟩, HK6.out⟩
                rw [HS1.out]
                refine endS_none (i := q + 1) ?_ y HQL.out
                rw [HST6.out, if_pos HBIG.out]
              · have HSML : Hid (¬ 512 < L6) := by have := of_decide_eq_false e6; show ¬ _; omega
                have e6' : decide (512 < L6) = false := decide_eq_false HSML.out
                go_wp2
                have HEQ : Hid (endS (ki.toNat : Int) bs a (q + 1) s1 = some (t6, [])) := by
                  show _ = _
                  rw [HST6.out, if_neg HSML.out]
                go_roundw
                case rel => exact ⟨q + 1, t6, HQL.out, by first | exact round_same HWJ | go_num, rfl, HEQ, HE6.out, hX6, by rw [HLT6.out.1, HLT6.out.2]; exact hP6, HK6.out⟩
                case measure => first | exact round_less HWJ HQL.out | (have h := HQL.out; simp [intOf]; omega)
          · have hqe : q = y := by omega
            have HENY : Hid (endS (ki.toNat : Int) bs a y s1 = some (t, [])) := by rw [← hqe]; exact hen.out
            have HEY := Lib.hid hEt
            have HKY := Lib.hid hKt
            clear hen hEt hXt hPt hKt hqe
            go_wp2
            go_ret2
            exact ⟨.inr ⟨t, [], none, 0, by rw [HS1.out]; exact HENY.out, rfl, rdin_nilb (by unfold maxLen; omega) _, HEY.out⟩, HKY.out⟩
      · have HKW := Lib.hid hkw
        clear hkw
        have HRD : Hid (∀ i, endS (ki.toNat : Int) bs a i s1 = some (s1, readS s1 a i)) := fun i => endS_read HKW.out bs a s1 i
        obtain ⟨iu, hu, hu0, hu1, hu2⟩ := minfo_u8
        obtain ⟨wo, rfl⟩ : ∃ z : World, z = wr := ⟨_, rfl⟩
        go_wp2
        clear hlt hj x1 hPr
        go_loopw [4, 29] (fun dv i w2 => ∃ (q : Nat), q ≤ y ∧ i = .int .i64 q ∧ Below wo.heap.size wo w2 ∧ w2.ownsRow wo.heap.size 5 1 dv (readS s1 a q).length ((readS s1 a q).map byteV) ∧ Hid ((readS s1 a q).length = 128 * q)) (fun _ i _ => y - (intOf i).toNat)
        case atStart => exact ⟨0, by omega, rfl, Below.refl _ _, ⟨rfl, .inl ⟨rfl, rfl⟩⟩, rfl⟩
        case round =>
          obtain ⟨q, hq, rfl, b2, own2, hrl⟩ := hrel
          by_cases hqy : q < y
          · have hb : a + q < s1.1.length := by have := HA1.out; omega
            obtain ⟨r1, r2, r3⟩ := HOK1.out.row hb
            obtain ⟨By2, z1, z2, z3, z4, z5, z6⟩ := HE1.out
            obtain ⟨g, o, c, A', c', m1, m2, m3⟩ := z4.last hb (by omega)
            have hgl : g < wo.heap.size := block_lt_of_cell m2
            have m4 : wr.cell? ⟨R, a + q, none⟩ = some (.slice (some ⟨g, o, none⟩) (s1.1[a + q]'hb).length c) := (b2.cell (p := ⟨R, a + q, none⟩) z4.lt).trans m1
            have m5 : wr.cell? ⟨g, o + ((s1.1[a + q]'hb).length - 1), none⟩ = some (.slice A' ((s1.1.getD (a + q) []).getLastD []).length c') := (b2.cell (p := ⟨g, o + ((s1.1[a + q]'hb).length - 1), none⟩) hgl).trans m2
            have HLA := Lib.hid (m3.below b2)
            have HST : Hid (readS s1 a (q + 1) = readS s1 a q ++ (s1.1.getD (a + q) []).getLastD []) := rfl
            have HL8 : Hid (((s1.1.getD (a + q) []).getLastD []).length = 128) := by
              show _ = _
              rw [getD_lt hb, List.getLastD_eq_getLast?, List.getLast?_eq_getElem?, List.getElem?_eq_getElem (by omega)]
              exact r3 _ _
            generalize (s1.1.getD (a + q) []).getLastD [] = lv at *
            have hbr : RdIn wr By (.sl .byte) bs [.slice Ab bs.length cb] := HBR.out.below b2
            have hsw := swrites_any By (ki.toNat : Int) (a : Int) (y : Int) bs Ab cb q wr hbr (fun hk => by have := HBS.out hk; omega) (by have := HAY.out.1; omega)
            have HSW := Lib.hid hsw
            have hwb : wrap64 ((a : Int) + (q : Int)) = ((a + q : Nat) : Int) := by
              have := HAY.out.2
              have := HYS.out
              rw [IntWalk.wrap64_in _ (by omega)]
              rfl
            have HQL := Lib.hid hqy
            have HN1 : Hid (1 ≤ (s1.1[a + q]'hb).length ∧ (s1.1[a + q]'hb).length ≤ 512) := ⟨r1, r2⟩
            clear r1 r2 r3 m3 z1 z2 z3 z4 z5 z6
            generalize (s1.1[a + q]'hb).length = n at *
            have xt := (hX1.next b2).cell
            have pt := (HPR.out.next b2).cell
            have HB2 := Lib.hid b2
            have HOW := Lib.hid own2
            have HM12 := Lib.hid (And.intro m1 m2)
            clear m1 m2
            clear hsw hbr hgl b2 own2
            go_wp2_with fail
            refine HSW.out.mono ?_
            rintro e w2 ⟨⟨D, nn, c2, rfl, hbl⟩, b3⟩
            rw [HKW.out]
            have hR2 : wr.cell? ⟨R, a + q, none⟩ = some (.slice (some ⟨g, o, none⟩) n c) := m4
            have k4 : w2.cell? ⟨R, a + q, none⟩ = some (.slice (some ⟨g, o, none⟩) n c) := (b3.cell (block_lt_of_cell m4)).trans m4
            have k5 : w2.cell? ⟨g, o + (n - 1), none⟩ = some (.slice A' lv.length c') := (b3.cell (block_lt_of_cell m5)).trans m5
            have HB3 := Lib.hid (Ext.trans HB2.out b3)
            have HOW3 := Lib.hid (own_next HOW.out b3)
            have HLA3 := Lib.hid (HLA.out.below b3)
            clear hbl b3 m4 m5 xt pt hR2 HB2 HOW HLA
            go_upto_region 13 with fail
            have e1 : IntKind.i64.wrap ((n : Int) - 1) = ((n - 1 : Nat) : Int) := by have := HN1.out; rw [i64_fit (by omega)]; omega
            have hn0 : n - 1 < n := by have := HN1.out; omega
            have d4 : w2.drew.cell? ⟨R, a + q, none⟩ = some (.slice (some ⟨g, o, none⟩) n c) := k4
            have d5 : w2.drew.cell? ⟨g, o + (n - 1), none⟩ = some (.slice A' lv.length c') := k5
            refine wp_region_held_drew (S := fun w' => w'.cell? ⟨R, a + q, none⟩ = some (.slice (some ⟨g, o, none⟩) n c) ∧ w'.cell? ⟨g, o + (n - 1), none⟩ = some (.slice A' lv.length c')) (by kernel_rfl) ⟨d4, d5⟩ (fun hS => ?_)
            clear k4 k5 d4 d5
            refine wpAnyH_take (i := 0) (oi := _) (v := ?_) rfl (by kernel_rfl) (by kernel_rfl) (by kernel_rfl) (fun _ _ _ h => h) (Or.inl ⟨by rfl, ?_⟩) hS ?_
            rotate_left
            · (intro w hSw; (try dsimp only at hSw); go_simp; (try with_reducible rfl))
            rotate_left
            simp only [Act.put, List.getElem_toArray, List.getElem_cons_zero, List.getElem_cons_succ, List.setIfInBounds_toArray, List.set_cons_zero, List.set_cons_succ]
            refine wpAnyH_take (i := 1) (oi := _) (v := ?_) rfl (by kernel_rfl) (by kernel_rfl) (by kernel_rfl) (fun _ _ _ h => h) (Or.inl ⟨by rfl, ?_⟩) hS ?_
            rotate_left
            · (intro w hSw; (try dsimp only at hSw); go_simp; (try with_reducible rfl))
            rotate_left
            simp only [Act.put, List.getElem_toArray, List.getElem_cons_zero, List.getElem_cons_succ, List.setIfInBounds_toArray, List.set_cons_zero, List.set_cons_succ]
            refine wpAnyH_take (i := 2) (oi := _) (v := ?_) rfl (by kernel_rfl) (by kernel_rfl) (by kernel_rfl) (fun _ _ _ h => h) (Or.inl ⟨by rfl, ?_⟩) hS ?_
            rotate_left
            · (intro w hSw; (try dsimp only at hSw); go_simp; (try with_reducible rfl))
            rotate_left
            simp only [Act.put, List.getElem_toArray, List.getElem_cons_zero, List.getElem_cons_succ, List.setIfInBounds_toArray, List.set_cons_zero, List.set_cons_succ]
            refine wpAnyH_take (i := 3) (oi := _) (v := ?_) rfl (by kernel_rfl) (by kernel_rfl) (by kernel_rfl) (fun _ _ _ h => h) (Or.inl ⟨by rfl, ?_⟩) hS ?_
            rotate_left
            · (intro w hSw; (try dsimp only at hSw); go_simp; (try with_reducible rfl))
            rotate_left
            simp only [Act.put, List.getElem_toArray, List.getElem_cons_zero, List.getElem_cons_succ, List.setIfInBounds_toArray, List.set_cons_zero, List.set_cons_succ]
            refine wpAnyH_take (i := 4) (oi := _) (v := ?_) rfl (by kernel_rfl) (by kernel_rfl) (by kernel_rfl) (fun _ _ _ h => h) (Or.inl ⟨by rfl, ?_⟩) hS ?_
            rotate_left
            · (intro w hSw; (try dsimp only at hSw); go_simp; (try with_reducible rfl))
            rotate_left
            simp only [Act.put, List.getElem_toArray, List.getElem_cons_zero, List.getElem_cons_succ, List.setIfInBounds_toArray, List.set_cons_zero, List.set_cons_succ]
            refine wpAnyH_take (i := 5) (oi := _) (v := ?_) rfl (by kernel_rfl) (by kernel_rfl) (by kernel_rfl) (fun _ _ _ h => h) (Or.inl ⟨by rfl, ?_⟩) hS ?_
            rotate_left
            · (intro w hSw; (try dsimp only at hSw); go_simp; (try with_reducible rfl))
            rotate_left
            simp only [Act.put, List.getElem_toArray, List.getElem_cons_zero, List.getElem_cons_succ, List.setIfInBounds_toArray, List.set_cons_zero, List.set_cons_succ]
            refine wpAnyH_take (i := 6) (oi := _) (v := ?_) rfl (by kernel_rfl) (by kernel_rfl) (by kernel_rfl) (fun _ _ _ h => h) (Or.inl ⟨by rfl, ?_⟩) hS ?_
            rotate_left
            · (intro w hSw; (try dsimp only at hSw); go_simp; (try with_reducible rfl))
            rotate_left
            simp only [Act.put, List.getElem_toArray, List.getElem_cons_zero, List.getElem_cons_succ, List.setIfInBounds_toArray, List.set_cons_zero, List.set_cons_succ]
            refine wpAnyH_take (i := 7) (oi := _) (v := ?_) rfl (by kernel_rfl) (by kernel_rfl) (by kernel_rfl) (fun _ _ _ h => h) (Or.inl ⟨by rfl, ?_⟩) hS ?_
            rotate_left
            · (intro w hSw; (try dsimp only at hSw); go_simp; (try with_reducible rfl))
            rotate_left
            simp only [Act.put, List.getElem_toArray, List.getElem_cons_zero, List.getElem_cons_succ, List.setIfInBounds_toArray, List.set_cons_zero, List.set_cons_succ]
            refine wpAnyH_take (i := 8) (oi := _) (v := ?_) rfl (by kernel_rfl) (by kernel_rfl) (by kernel_rfl) (fun _ _ _ h => h) (Or.inl ⟨by rfl, ?_⟩) hS ?_
            rotate_left
            · (intro w hSw; (try dsimp only at hSw); go_simp; (try with_reducible rfl))
            rotate_left
            simp only [Act.put, List.getElem_toArray, List.getElem_cons_zero, List.getElem_cons_succ, List.setIfInBounds_toArray, List.set_cons_zero, List.set_cons_succ]
            refine wpAnyH_take (i := 9) (oi := _) (v := ?_) rfl (by kernel_rfl) (by kernel_rfl) (by kernel_rfl) (fun _ _ _ h => h) (Or.inl ⟨by rfl, ?_⟩) hS ?_
            rotate_left
            · (intro w hSw; (try dsimp only at hSw); go_simp; (try with_reducible rfl))
            rotate_left
            simp only [Act.put, List.getElem_toArray, List.getElem_cons_zero, List.getElem_cons_succ, List.setIfInBounds_toArray, List.set_cons_zero, List.set_cons_succ]
            refine wpAnyH_take (i := 10) (oi := _) (v := ?_) rfl (by kernel_rfl) (by kernel_rfl) (by kernel_rfl) (fun _ _ _ h => h) (Or.inl ⟨by rfl, ?_⟩) hS ?_
            rotate_left
            · (intro w hSw; (try dsimp only at hSw); go_simp; (try with_reducible rfl))
            rotate_left
            simp only [Act.put, List.getElem_toArray, List.getElem_cons_zero, List.getElem_cons_succ, List.setIfInBounds_toArray, List.set_cons_zero, List.set_cons_succ]
            refine wpAnyH_ready (rs := [11]) (by kernel_rfl) (by simp) ?_
            refine AllReadyH.cons rfl (fun K hK => ?_) AllReadyH.nil
            rw [if_pos (by rfl)]
            refine wp_append_rd _ (.tmp 52) (.tmp 62) 29 rfl wo.heap.size 5 iu _ 1 1 Try.underlying29 hu hu0 hu1 hu2 rfl (by decide) _ (readS s1 a q).length ((readS s1 a q).map byteV) rfl (own_next HOW3.out (Ext.drew (Below.refl _ _))) A' lv.length c' (lv.map byteV) rfl (by simp) (HLA3.out.bytes_bs.below (Ext.drew (Below.refl _ _))).2 (byteV_one _) (by have := HAY.out.1; have := HQL.out; have := hrl.out; have := HL8.out; unfold maxLen; omega) (by have := HAY.out.1; have := HQL.out; have := hrl.out; have := HL8.out; omega) (HB3.out.size) ?_
            intro dv' w4 hown4 hgr4 hat4
            have b4 : Below wo.heap.size wo w4 := Below.grown (Ext.drew HB3.out) hgr4 HB3.out.size (fun k e => own_block HOW3.out e)
            refine hK.out _ _ ⟨(b4.cell (block_lt_of_cell HM12.out.1)).trans HM12.out.1, (b4.cell (block_lt_of_cell HM12.out.2)).trans HM12.out.2⟩ (fun hS' => ?_)
            clear hK K hS
            have hS := hS'
            clear hS'
            try simp only [Act.put, List.getElem_toArray, List.getElem_cons_zero, List.getElem_cons_succ, List.setIfInBounds_toArray, List.set_cons_zero, List.set_cons_succ]
            refine wpAnyH_take (i := 12) (oi := _) (v := ?_) rfl (by kernel_rfl) (by kernel_rfl) (by kernel_rfl) (fun _ _ _ h => h) (Or.inl ⟨by rfl, ?_⟩) hS ?_
            rotate_left
            · (intro w hSw; (try dsimp only at hSw); go_simp; (try with_reducible rfl))
            rotate_left
            simp only [Act.put, List.getElem_toArray, List.getElem_cons_zero, List.getElem_cons_succ, List.setIfInBounds_toArray, List.set_cons_zero, List.set_cons_succ]
            refine wpAnyH_done (by kernel_rfl) ?_ _
            have HOWN : Hid (w4.ownsRow wo.heap.size 5 1 dv' (readS s1 a (q + 1)).length ((readS s1 a (q + 1)).map byteV)) := by
              show World.ownsRow _ _ _ _ _ _ _
              rw [HST.out, List.length_append, List.map_append]
              exact hown4
            have HRL : Hid ((readS s1 a (q + 1)).length = 128 * (q + 1)) := by
              show _ = _
              rw [HST.out, List.length_append, hrl.out, HL8.out]
              omega
            have HWJ := next_wrap (show y ≤ maxLen by have := HAY.out.1; unfold maxLen; omega) HQL.out
            have HB4 := Lib.hid b4
            clear hown4 hgr4 hat4 b4 hS e1 hn0 hwb
            go_wp2
            go_roundw
            case rel => exact ⟨q + 1, HQL.out, by first | exact round_same HWJ | go_num, HB4.out, HOWN.out, HRL⟩
            case measure => first | exact round_less HWJ HQL.out | (have h := HQL.out; simp [intOf]; omega)
          · have hqe : q = y := by omega
            obtain ⟨DD, dq, hdv⟩ := own_form own2
            subst hdv
            have HRN : Hid (RdIn wr (NewB lo wr) (.sl .byte) (readS s1 a y) [.slice DD (readS s1 a y).length dq]) := by
              have h1 := OwnL.bytes_rdin (OwnL.of_bytes own2) (by have := hrl.out; have := HAY.out.1; omega)
              rw [hqe] at h1
              exact h1.mono fun b hb => ⟨by have := hb.1; have := HLR.out; omega, hb.2⟩
            rw [hqe]
            have HB4 := Lib.hid b2
            clear own2 b2 hrl
            go_wp2
            go_ret2
            exact ⟨.inr ⟨s1, readS s1 a y, DD, dq, by rw [HS1.out]; exact HRD.out y, rfl, HRN.out, HE1.out.next HB4.out HLR.out⟩, HK1.out.trans (Kp.of_below HB4.out HLR.out)⟩
end Go.Proofs.Ytclbihcggjjgaaa
/- Layer 30 (model): the program: a request is found, and taken out. -/
namespace Go.Proofs.Ytclbihcggjjgaaa
open Go Go.RowKit
set_option linter.unusedSimpArgs false
set_option linter.unusedVariables false

def FoundIs (p : GoTy.T → Bool) (gs : List GoTy.T) (e : Ending) : Prop := (∃ j, ∃ h : j < gs.length, e = .returned (.int .i64 (j : Int)) ∧ p gs[j] = true) ∨ (e = .returned (.int .i64 (-1)) ∧ ∀ j (h : j < gs.length), p gs[j] = false)
def numE (n : Int) (g : GoTy.T) : Bool := nuOf g == n
theorem end1_any (g : GoTy.T) (Ab : Option Addr) (cg : Nat) (Am : Option Addr) (lm cm : Nat) (number : Int) (gn : Nat) (w : World) (B1 : BoxOf w gn #[.int .i64 number] 3) :
    Calls Try.prog 57 #[.agg #[.int .i64 (nuOf g), .int .u8 ((kiOf g).toNat : Int), .int .i64 (atOf g), .int .i64 (manyOf g), .slice Ab (datOf g).length cg, .slice Am lm cm], .pointer (some ⟨gn, 0, none⟩)] w fun e w' => e = .returned (.bool (numE number g)) ∧ Below w.heap.size w w' := by
  have P0 := BoxOf.new w #[.int .i64 (nuOf g), .int .u8 ((kiOf g).toNat : Int), .int .i64 (atOf g), .int .i64 (manyOf g), .slice Ab (datOf g).length cg, .slice Am lm cm] 64
  have t0 := Ext.alloc (Below.refl w.heap.size w) (.cells #[.int .i64 (nuOf g), .int .u8 ((kiOf g).toNat : Int), .int .i64 (atOf g), .int .i64 (manyOf g), .slice Ab (datOf g).length cg, .slice Am lm cm] 64)
  have C1 := B1.alloc (.cells #[.int .i64 (nuOf g), .int .u8 ((kiOf g).toNat : Int), .int .i64 (atOf g), .int .i64 (manyOf g), .slice Ab (datOf g).length cg, .slice Am lm cm] 64)
  unfold numE
  clear B1
  go_enter Try.func57, Try.ntmps57
  go_upto_region 1 with fail
  generalize w.alloc (.cells #[.int .i64 (nuOf g), .int .u8 ((kiOf g).toNat : Int), .int .i64 (atOf g), .int .i64 (manyOf g), .slice Ab (datOf g).length cg, .slice Am lm cm] 64) = W at *
  have x0 := P0.cell
  have y1 := C1.cell
  go_wp2
  go_ret
  exact ⟨rfl, t0⟩

set_option maxRecDepth 100000 in
set_option maxHeartbeats 2000000 in
theorem idxf_end (S : Nat → Prop) (gs : List GoTy.T) (B : Option Addr) (d : Nat) (number : Int) (gn : Nat) (w : World) (hg : RdIn w S (.sl GoTy) gs [.slice B gs.length d]) (B1 : BoxOf w gn #[.int .i64 number] 3) :
    Calls Try.prog 56 #[.slice B gs.length d, .func (.func 57) #[] #[.pointer (some ⟨gn, 0, none⟩)]] w fun e w' => FoundIs (numE number) gs e ∧ Below w.heap.size w w' := by
  have HG := Lib.hid hg
  have HGM := Lib.hid (go_max hg)
  have HLE : Hid (∀ w', Below w.heap.size w w' → ∀ (g : GoTy.T) (Ab : Option Addr) (cg : Nat) (Am : Option Addr) (lm cm : Nat), Calls Try.prog 57 #[.agg #[.int .i64 (nuOf g), .int .u8 ((kiOf g).toNat : Int), .int .i64 (atOf g), .int .i64 (manyOf g), .slice Ab (datOf g).length cg, .slice Am lm cm], .pointer (some ⟨gn, 0, none⟩)] w' fun e w'' => e = .returned (.bool (numE number g)) ∧ Below w'.heap.size w' w'') := fun w' bb g Ab cg Am lm cm => end1_any g Ab cg Am lm cm number gn w' (B1.next bb)
  clear hg
  go_enter Try.func56, Try.ntmps56
  go_upto_region 1 with fail
  obtain ⟨W, hW⟩ : ∃ z : World, z = w := ⟨_, rfl⟩
  have b0 : Below W.heap.size W w := by rw [hW]; exact Below.refl _ _
  have HWW := Lib.hid hW
  rw [← hW] at HG
  clear hW
  go_wp2
  go_loopw [5, 8] (fun v i wr => ∃ (j : Nat), j ≤ gs.length ∧ i = .int .i64 j ∧ Below W.heap.size W wr ∧ Hid (∀ i, i < j → NotAt (numE number) gs i)) (fun _ i _ => gs.length - (intOf i).toNat)
  case atStart => exact ⟨0, by omega, rfl, b0, fun i h => absurd h (Nat.not_lt_zero _)⟩
  case round =>
    obtain ⟨j, hj, rfl, b1, HA⟩ := hrel
    clear b0
    have bw : Below w.heap.size w wr := by have := HWW.out; subst this; exact b1
    by_cases hlt : j < gs.length
    · obtain ⟨b, off, Ab, cg, Am, cm, rfl, q0, q1, q2, q3, q4, q5, i0, i1, i2, rb, rm⟩ := go_at (HG.out.below b1) hlt
      have HSK : Hid (NotAt (numE number) gs j ↔ (numE number) gs[j] = false) := ⟨fun h => h hlt, fun h _ => h⟩
      have HSY : Hid ((numE number) gs[j] = true → FoundIs (numE number) gs (.returned (.int .i64 (j : Int)))) := fun h => .inl ⟨j, hlt, rfl, h⟩
      generalize gs[j] = g at *
      have HWJ := next_wrap HGM.out hlt
      have HLJ := Lib.hid hlt
      have HRB := Lib.hid rb
      clear rb rm i0 i1 i2
      rcases Bool.eq_false_or_eq_true ((numE number) g) with e1 | e1
      · have HF := Lib.hid (HSY.out e1)
        go_wp2_with (go_at_call 57; refine (HLE.out _ bw _ _ _ _ _ _).mono ?_; rintro e w3 ⟨rfl, b3⟩)
        go_ret
        exact ⟨HF.out, Ext.trans bw b3⟩
      · have HA' : Hid (∀ i, i < j + 1 → NotAt (numE number) gs i) := by
          intro i hi
          by_cases h : i = j
          · subst h
            exact HSK.out.2 e1
          · exact HA.out i (by omega)
        go_wp2_with (go_at_call 57; refine (HLE.out _ bw _ _ _ _ _ _).mono ?_; rintro e w3 ⟨rfl, b3⟩)
        have b5 := Ext.trans b1 b3
        go_roundw
        case rel => exact ⟨j + 1, HLJ.out, by first | exact round_same HWJ | go_num, b5, HA'⟩
        case measure => first | exact round_less HWJ HLJ.out | (have h := HLJ.out; simp [intOf]; omega)
    · have HN : Hid (∀ i (h : i < gs.length), (numE number) gs[i] = false) := fun i hi => HA.out i (by omega) hi
      go_wp2
      go_ret
      exact ⟨.inr ⟨rfl, HN.out⟩, bw⟩

theorem MayS.more {w : World} {By By' : Nat → Prop} {lo R : Nat} {ys : Ys} (h : MayS w By lo R ys) (hB : ∀ b, By b → By' b) (hn : ∀ b cs, BoxOf w b cs 30 ∨ BoxOf w b cs 29 → By' b → By b) : MayS w By' lo R ys := by
  obtain ⟨cells, gf, of, cf, h1, h2, h3, h4⟩ := h
  refine ⟨cells, gf, of, cf, h1, ⟨h2.1, fun h => h2.2 (hn R _ (.inl h1) h)⟩, fun i hi => ⟨(h3 i hi).1, ?_⟩, h4⟩
  obtain ⟨cur, k1, k2, k3, k4, k5, k6⟩ := (h3 i hi).2
  exact ⟨cur, k1, k2, k3, k4, ⟨k5.1, fun h => k5.2 (hn _ _ (.inr k1) h)⟩, fun k hk => by
    obtain ⟨u, e1, e2⟩ := k6 k hk
    exact ⟨u, e1, e2.mono hB⟩⟩
theorem GoE.frame2 {w w' : World} {By By' : Nat → Prop} {lo : Nat} {at' at2 : Nat → Option Value} {b : Nat} {g : GoTy.T} (h : GoE w By lo at' b g) (ha : ∀ q, q < 6 → at2 q = at' q) (hf : mksOf g ≠ [] → w'.heap[b]? = w.heap[b]?) (hb : ∀ b, By b → w'.heap[b]? = w.heap[b]?) (hB : ∀ b, By b → By' b) (hB' : mksOf g ≠ [] → By' b → By b) : GoE w' By' lo at2 b g := by
  obtain ⟨vd, vm, ⟨h0, h1, h2, h3, h4, h5⟩, h6, h7, m0, A, c, m1, m2, m3, m4, m5⟩ := h
  refine ⟨vd, vm, ⟨by rw [ha 0 (by decide)]; exact h0, by rw [ha 1 (by decide)]; exact h1, by rw [ha 2 (by decide)]; exact h2, by rw [ha 3 (by decide)]; exact h3, by rw [ha 4 (by decide)]; exact h4, by rw [ha 5 (by decide)]; exact h5⟩, h6, (h7.frame hb).mono hB, m0, A, c, m1, m2, m3, m4, ?_⟩
  by_cases he : mksOf g = []
  · exact .inl he
  · rcases m5 with m5 | ⟨o, cur, m6, m7, m8, m9⟩
    · exact .inl m5
    · exact .inr ⟨o, cur, m6, by have := hf he; unfold BoxOf at *; rw [this]; exact m7, ⟨m8.1, fun h => m8.2 (hB' he h)⟩, m9⟩
theorem eraseIdx_at {gs : List GoTy.T} {j : Nat} (hj : j < gs.length) {i : Nat} (hi : i < (gs.eraseIdx j).length) : ∃ h : (if i < j then i else i + 1) < gs.length, (gs.eraseIdx j)[i] = gs[if i < j then i else i + 1] := by
  have h1 : (if i < j then i else i + 1) < gs.length := by rw [List.length_eraseIdx_of_lt hj] at hi; split <;> omega
  refine ⟨h1, ?_⟩
  rw [List.getElem_eraseIdx]
  split <;> simp [*]
/-- a request is taken out; its marks stay as they are -/
theorem GoS.del {w : World} {By : Nat → Prop} {lo : Nat} {B : Option Addr} {d : Nat} {gs : List GoTy.T} (h : GoS w By lo B d gs) (hBy : ∀ b, By b → b < w.heap.size) (hd : gs.length ≤ d) {j : Nat} (hj : j < gs.length) :
    ∃ (G o : Nat) (cells : Array Value) (Ab : Option Addr) (cb : Nat) (Am : Option Addr) (cm : Nat) (By' : Nat → Prop), B = some ⟨G, o, none⟩ ∧ BoxOf w G cells 64 ∧ o + d * 6 ≤ cells.size ∧
      (w.cell? ⟨G, o + j * 6, none⟩ = some (.int .i64 (nuOf gs[j])) ∧ w.cell? ⟨G, o + j * 6 + 1, none⟩ = some (.int .u8 ((kiOf gs[j]).toNat : Int)) ∧ w.cell? ⟨G, o + j * 6 + 2, none⟩ = some (.int .i64 (atOf gs[j])) ∧ w.cell? ⟨G, o + j * 6 + 3, none⟩ = some (.int .i64 (manyOf gs[j])) ∧ w.cell? ⟨G, o + j * 6 + 4, none⟩ = some (.slice Ab (datOf gs[j]).length cb) ∧ w.cell? ⟨G, o + j * 6 + 5, none⟩ = some (.slice Am (mksOf gs[j]).length cm)) ∧
      (∀ q, q < gs.length * 6 → ∃ u, cells.toList[o + q]? = some u ∧ u.oneCell' = true) ∧ (∀ b, By b → By' b) ∧ (∀ b, By' b → By b ∨ ∃ cs, lo ≤ b ∧ BoxOf w b cs 3) ∧ RdIn w By' (.sl .byte) (datOf gs[j]) [.slice Ab (datOf gs[j]).length cb] ∧ RdIn w By' (.sl .int) (mksOf gs[j]) [.slice Am (mksOf gs[j]).length cm] ∧
      ∀ wa w', Below w.heap.size w wa → DelIs G o 6 gs.length j (j + 1) cells 64 wa w' → GoS w' By' lo (some ⟨G, o, none⟩) d (gs.eraseIdx j) ∧ ∀ b, By' b → w'.heap[b]? = w.heap[b]? := by
  rcases h with h | ⟨G, o, cells, bf, h1, h2, h3, h4, h5⟩
  · rw [h] at hj; simp at hj
  · have hcell : ∀ q, q < gs.length * 6 → ∃ u, cells.toList[o + q]? = some u ∧ u.oneCell' = true := by
      intro q hq
      have hq1 : q / 6 < gs.length := by omega
      obtain ⟨vd, vm, ⟨k0, k1, k2, k3, k4, k5⟩, k6, k7, m0, Am, cm, m1, _⟩ := h4 (q / 6) hq1
      have e6 : q = q / 6 * 6 + q % 6 := by omega
      have hm : q % 6 = 0 ∨ q % 6 = 1 ∨ q % 6 = 2 ∨ q % 6 = 3 ∨ q % 6 = 4 ∨ q % 6 = 5 := by omega
      rw [e6, ← Nat.add_assoc]
      obtain ⟨Ad, cd, ed, _⟩ := k7.bytes
      rcases hm with hm | hm | hm | hm | hm | hm <;> rw [hm]
      · exact ⟨_, k0, rfl⟩
      · exact ⟨_, k1, rfl⟩
      · exact ⟨_, k2, rfl⟩
      · exact ⟨_, k3, rfl⟩
      · exact ⟨_, k4, by rw [ed]; rfl⟩
      · exact ⟨_, k5, by rw [m1]; rfl⟩
    have h4j := h4 j hj
    obtain ⟨vd, vm, ⟨k0, k1, k2, k3, k4, k5⟩, k6, k7, m0, Am, cm, rfl, m2, m3, m4, m5⟩ := h4j
    obtain ⟨Ab, cb, rfl, _⟩ := k7.bytes
    have hmk : ∀ i (hi : i < gs.length), mksOf gs[i] ≠ [] → ∃ cur, BoxOf w (bf i) cur 3 ∧ lo ≤ bf i ∧ ¬ By (bf i) := by
      intro i hi hne
      obtain ⟨_, _, _, _, _, _, _, _, _, _, _, _, hh⟩ := h4 i hi
      rcases hh with hh | ⟨_, cur, _, hh, hh2, _⟩
      · exact absurd hh hne
      · exact ⟨cur, hh, hh2.1, hh2.2⟩
    refine ⟨G, o, cells, Ab, cb, Am, cm, fun b => By b ∨ (mksOf gs[j] ≠ [] ∧ b = bf j), h1, h2, h3.2.2, ⟨by rw [h2.cell]; exact k0, by rw [h2.cell]; exact k1, by rw [h2.cell]; exact k2, by rw [h2.cell]; exact k3, by rw [h2.cell]; exact k4, by rw [h2.cell]; exact k5⟩, hcell, fun b hb => .inl hb, fun b hb => ?_, k7.mono fun b hb => .inl hb, ?_, fun wa w' hwa hD => ?_⟩
    · rcases hb with hb | ⟨hne, rfl⟩
      · exact .inl hb
      · obtain ⟨cur, e1, e2, _⟩ := hmk j hj hne
        exact .inr ⟨cur, e2, e1⟩
    · refine rdin_sl.2 ⟨_, _, rfl, m2, m3, m4, ?_⟩
      rcases m5 with m5 | ⟨o', cur, m6, m7, m8, m9⟩
      · exact .inl m5
      · by_cases hne : mksOf gs[j] = []
        · exact .inl hne
        · refine .inr ⟨bf j, o', m6, .inr ⟨hne, rfl⟩, fun i hi => ⟨[.int .i64 ((mksOf gs[j])[i]'hi)], fun q hq => ?_, rdin_int.2 ⟨rfl, m0 _ (List.getElem_mem hi)⟩⟩⟩
          have hq0 : q = 0 := by have : q < 1 := hq; omega
          subst hq0
          show w.cell? ⟨bf j, o' + i * 1 + 0, none⟩ = _
          rw [Nat.mul_one, Nat.add_zero, m7.cell]
          exact m9 i hi
    · obtain ⟨hg, cells', d1, d2, d3⟩ := hD
      have hB2 : ∀ b, (By b ∨ (mksOf gs[j] ≠ [] ∧ b = bf j)) → b < w.heap.size ∧ b ≠ G := by
        intro b hb
        rcases hb with hb | ⟨hne, rfl⟩
        · exact ⟨hBy b hb, fun e => h3.2.1 (e ▸ hb)⟩
        · obtain ⟨cur, e1, _, _⟩ := hmk j hj hne
          exact ⟨e1.lt, box_diff e1 h2 (by decide)⟩
      have hfr : ∀ b, b < w.heap.size → b ≠ G → w'.heap[b]? = w.heap[b]? := fun b h1 h2 => (hg.block b (Nat.lt_of_lt_of_le h1 hwa.size) (fun e => h2 (Option.some.inj e))).trans (hwa.block b h1)
      refine ⟨.inr ⟨G, o, cells', fun i => bf (if i < j then i else i + 1), rfl, d1, ⟨h3.1, fun h => (hB2 G h).2 rfl, by rw [d2]; exact h3.2.2⟩, fun i hi => ?_, fun i i' hi hi' e1 e2 e => ?_⟩, fun b hb => hfr b (hB2 b hb).1 (hB2 b hb).2⟩
      · obtain ⟨hlt, he⟩ := eraseIdx_at hj hi
        rw [he]
        have hil : i < gs.length - 1 := by rw [List.length_eraseIdx_of_lt hj] at hi; exact hi
        refine (h4 _ hlt).frame2 (fun q hq => ?_) (fun hne => ?_) (fun b hb => ?_) (fun b hb => .inl hb) (fun hne hb => ?_)
        · show cells'.toList[o + i * 6 + q]? = cells.toList[o + (if i < j then i else i + 1) * 6 + q]?
          rw [Nat.add_assoc, d3 (i * 6 + q) (by omega)]
          congr 1
          by_cases h : i < j
          · rw [if_pos h, if_pos (by omega)]; omega
          · rw [if_neg h, if_neg (by omega)]; omega
        · obtain ⟨cur, e1, _, _⟩ := hmk _ hlt hne
          exact hfr _ e1.lt (box_diff e1 h2 (by decide))
        · exact hfr _ (hB2 b (.inl hb)).1 (hB2 b (.inl hb)).2
        · rcases hb with hb | ⟨hne2, e⟩
          · exact hb
          · have := h5 _ _ hlt hj hne hne2 e
            split at this <;> omega
      · obtain ⟨hlt, he⟩ := eraseIdx_at hj hi
        obtain ⟨hlt', he'⟩ := eraseIdx_at hj hi'
        rw [he] at e1
        rw [he'] at e2
        have := h5 _ _ hlt hlt' e1 e2 e
        split at this <;> split at this <;> omega
end Go.Proofs.Ytclbihcggjjgaaa
/- Layer 30 (model): the program: a request ends. -/
namespace Go.Proofs.Ytclbihcggjjgaaa
open Go Go.RowKit
set_option linter.unusedSimpArgs false
set_option linter.unusedVariables false

theorem results_rows3 {P : Program} {fn : Func} {p q u : Tmp} {ty ty2 : TypeId} (h : fn.results = #[.cell p ty, .cell q ty2, .tmp u]) (tmps : Array Value) (w : World) (g : Nat) (t : TypeId) (cs : Array Value) (g2 : Nat) (t2 : TypeId) (cs2 : Array Value)
    (hp : tmps.getD p undef = .pointer (some ⟨g, 0, none⟩)) (hq : tmps.getD q undef = .pointer (some ⟨g2, 0, none⟩)) (hg : BoxOf w g cs t) (hg2 : BoxOf w g2 cs2 t2) (d d2 : TypeDesc)
    (hu : P.underlying ty = some d) (hu2 : P.underlying ty2 = some d2) (hd : (match d with | .struct _ | .array _ _ => true | _ => false) = true) (hd2 : (match d2 with | .struct _ | .array _ _ => true | _ => false) = true) (hi : (P.info? ty).map (·.size) = some cs.size) (hi2 : (P.info? ty2).map (·.size) = some cs2.size) :
    (results fn tmps).run P w = .ok (.tuple #[.agg cs, .agg cs2, tmps.getD u undef]) w := by
  have l1 := run_loadVar_row (P := P) w g t ty cs (0, 0) d hg hu hd hi
  have l2 := run_loadVar_row (P := P) w g2 t2 ty2 cs2 (0, 0) d2 hg2 hu2 hd2 hi2
  rw [Array.getD_eq_getD_getElem?] at hp hq
  simp only [results, h]
  simp [Sem.run_bind, Result.andThen, hp, hq, asAddr, l1, l2]
/-- what End answers -/
def EndIs (base : Nat) (x : Cfg) (ys : Ys) (gs : List GoTy.T) (number : Int) (e : Ending) (w : World) : Prop :=
  ∃ (v : Int) (zs : Ys) (hs : List GoTy.T) (rn : Int) (dat : List UInt8) (many : Int) (A' : Option Addr) (c' : Nat) (B' : Option Addr) (d' : Nat) (D : Option Addr) (q : Nat), e = .returned (.tuple #[.agg #[.slice A' zs.length c', .slice B' hs.length d'], .agg #[.int .i64 rn, .int .i64 0, .slice D dat.length q, .int .i64 many], .int .i64 v]) ∧
    EndRel x ys gs number v zs hs rn dat many ∧ RdIn w (NewB base w) (.sl (.sl (.sl .byte))) zs [.slice A' zs.length c'] ∧ RdIn w (NewB base w) (.sl GoTy) hs [.slice B' hs.length d'] ∧ RdIn w (NewB base w) (.sl .byte) dat [.slice D dat.length q]
theorem EndIs.err {base : Nat} {x : Cfg} {ys : Ys} {gs : List GoTy.T} {number v : Int} {w : World} (h : EndRel x ys gs number v [] [] 0 [] 0) : EndIs base x ys gs number (.returned (.tuple #[.agg #[.slice none 0 0, .slice none 0 0], .agg #[.int .i64 0, .int .i64 0, .slice none 0 0, .int .i64 0], .int .i64 v])) w :=
  ⟨v, [], [], 0, [], 0, none, 0, none, 0, none, 0, rfl, h, rdin_nil3 _ _, rdin_nilg _ _, rdin_nilb (by unfold maxLen; omega) _⟩
theorem numE_eq {n : Int} {g : GoTy.T} : numE n g = true ↔ nuOf g = n := by unfold numE; exact beq_iff_eq
theorem numE_ne {n : Int} {g : GoTy.T} : numE n g = false ↔ ¬ nuOf g = n := by unfold numE; exact beq_eq_false_iff_ne

theorem RdIn.rest {w w' : World} {lo base : Nat} {t : Ty} {x : t.T} {cs : List Value} (h : RdIn w (NewB lo w) t x cs) (hs : w'.heap.size = w.heap.size) (hf : ∀ b, lo ≤ b → w'.heap[b]? = w.heap[b]?) (hb : base ≤ lo) : RdIn w' (NewB base w') t x cs :=
  (h.frame fun b hB => hf b hB.1).mono fun b hB => by
    obtain ⟨h1, h2, cs, t, h3⟩ := hB
    exact ⟨Nat.le_trans hb h1, by rw [hs]; exact h2, cs, t, by rw [hf b h1]; exact h3⟩
theorem endAll_ok {x : Cfg} {ys : Ys} {gs : List GoTy.T} (h : PlainOk x ys gs) {j : Nat} (hj : j < gs.length) {t : (Ys × List GoTy.T) × List UInt8} (he : endAll ys gs j = some t) : PlainOk x t.1.1 t.1.2 ∧ t.1.1.length = ys.length ∧ t.1.2.length = (gs.eraseIdx j).length := by
  unfold endAll at he
  rw [List.getElem?_eq_getElem hj] at he
  obtain ⟨aok1, aok2, aok3, aok4, aok5, _⟩ := askCode_0 (h.goes j hj).1.2.1
  have hm := h.marks hj
  have hml : (mksOf gs[j]).length ≤ ys.length := by
    rcases hm.1 with e | e
    · rw [e]; exact Nat.zero_le _
    · exact Nat.le_of_eq e
  have h1 := marksS_ok (s := (ys, gs.eraseIdx j)) (h.erase hj) hml hm.2 _ (Nat.le_refl _)
  have hl := h.len
  have h2 := endS_ok h1.1 (k := ((kiOf gs[j]).toNat : Int)) (bs := datOf gs[j]) (a := (atOf gs[j]).toNat) (y := (manyOf gs[j]).toNat) (by
    rw [h1.2.1]
    unfold Placed at aok2
    show _ ≤ ys.length
    rcases aok2 with h2 | h2
    · have := h2.2.2.2.2; omega
    · have := h2.2.2; omega) (fun hk => by
    unfold kWant at aok3
    rw [if_pos hk] at aok3
    omega) _ (Nat.le_refl _) t he
  exact ⟨h2.1, h2.2.1.trans h1.2.1, h2.2.2.trans h1.2.2.1⟩

set_option maxRecDepth 100000 in
set_option maxHeartbeats 1000000 in
theorem send0_any (S : Nat → Prop) (x : Cfg) (ys : Ys) (gs : List GoTy.T) (A : Option Addr) (ca : Nat) (B : Option Addr) (cb : Nat) (number : Int) (w : World) (hy : RdIn w S (.sl (.sl (.sl .byte))) ys [.slice A ys.length ca]) (hg : RdIn w S (.sl GoTy) gs [.slice B gs.length cb]) :
    Calls Try.prog 23 #[x.val, .agg #[.slice A ys.length ca, .slice B gs.length cb], .int .i64 number] w fun e w' => EndIs w.heap.size x ys gs number e w' ∧ Below w.heap.size w w' := by
  have HPC : Hid (∀ w', Below w.heap.size w w' → Calls Try.prog 18 #[x.val, .agg #[.slice A ys.length ca, .slice B gs.length cb]] w' fun e w'' => OkBad (PlainOk x ys gs) e ∧ Below w'.heap.size w' w'') := fun w' bb => spcheck_any S x ys gs A ca B cb w' (hy.below bb) (hg.below bb)
  have HTW : Hid (∀ w', Below w.heap.size w w' → Calls Try.prog 33 #[.agg #[.slice A ys.length ca, .slice B gs.length cb]] w' fun e w'' => TwinIs w'.heap.size ys gs e w'' ∧ Below w'.heap.size w' w'') := fun w' bb => stwin_any S ys gs A ca B cb w' (hy.below bb) (hg.below bb)
  clear hy hg
  have hmf : ∀ (fn : Fn) (first cap : Array Value) (w : World), (Instr.makeFunc fn first cap).run Try.prog w = .ok (.func fn first cap) w := fun _ _ _ _ => rfl
  obtain ⟨id, m, c, r, l, h⟩ := x
  unfold Cfg.val at *
  dsimp only at *
  have C0 := BoxOf.alloc (BoxOf.alloc (BoxOf.alloc (BoxOf.alloc (BoxOf.new w #[.int .u32 (id : Int), .int .i64 m, .int .i64 c, .int .i64 r, .int .i64 l, .int .i64 h] 24) (.cells #[.slice A ys.length ca, .slice B gs.length cb] 28)) (.cells #[.int .i64 number] 3)) (.cells #[.slice none 0 0, .slice none 0 0] 28)) (.cells #[.int .i64 0, .int .i64 0, .slice none 0 0, .int .i64 0] 53)
  have P0 := BoxOf.alloc (BoxOf.alloc (BoxOf.alloc (BoxOf.new' (w.alloc (.cells #[.int .u32 (id : Int), .int .i64 m, .int .i64 c, .int .i64 r, .int .i64 l, .int .i64 h] 24)) (w.heap.size + 1) #[.slice A ys.length ca, .slice B gs.length cb] 28 (by simp)) (.cells #[.int .i64 number] 3)) (.cells #[.slice none 0 0, .slice none 0 0] 28)) (.cells #[.int .i64 0, .int .i64 0, .slice none 0 0, .int .i64 0] 53)
  have N0 := BoxOf.alloc (BoxOf.alloc (BoxOf.new' ((w.alloc (.cells #[.int .u32 (id : Int), .int .i64 m, .int .i64 c, .int .i64 r, .int .i64 l, .int .i64 h] 24)).alloc (.cells #[.slice A ys.length ca, .slice B gs.length cb] 28)) (w.heap.size + 2) #[.int .i64 number] 3 (by simp)) (.cells #[.slice none 0 0, .slice none 0 0] 28)) (.cells #[.int .i64 0, .int .i64 0, .slice none 0 0, .int .i64 0] 53)
  have Z0 := BoxOf.alloc (BoxOf.new' (((w.alloc (.cells #[.int .u32 (id : Int), .int .i64 m, .int .i64 c, .int .i64 r, .int .i64 l, .int .i64 h] 24)).alloc (.cells #[.slice A ys.length ca, .slice B gs.length cb] 28)).alloc (.cells #[.int .i64 number] 3)) (w.heap.size + 3) #[.slice none 0 0, .slice none 0 0] 28 (by simp)) (.cells #[.int .i64 0, .int .i64 0, .slice none 0 0, .int .i64 0] 53)
  have Y0 := BoxOf.new' ((((w.alloc (.cells #[.int .u32 (id : Int), .int .i64 m, .int .i64 c, .int .i64 r, .int .i64 l, .int .i64 h] 24)).alloc (.cells #[.slice A ys.length ca, .slice B gs.length cb] 28)).alloc (.cells #[.int .i64 number] 3)).alloc (.cells #[.slice none 0 0, .slice none 0 0] 28)) (w.heap.size + 4) #[.int .i64 0, .int .i64 0, .slice none 0 0, .int .i64 0] 53 (by simp)
  have t0 := Ext.alloc (Ext.alloc (Ext.alloc (Ext.alloc (Ext.alloc (Below.refl w.heap.size w) (.cells #[.int .u32 (id : Int), .int .i64 m, .int .i64 c, .int .i64 r, .int .i64 l, .int .i64 h] 24)) (.cells #[.slice A ys.length ca, .slice B gs.length cb] 28)) (.cells #[.int .i64 number] 3)) (.cells #[.slice none 0 0, .slice none 0 0] 28)) (.cells #[.int .i64 0, .int .i64 0, .slice none 0 0, .int .i64 0] 53)
  go_enter Try.func23, Try.ntmps23
  go_upto_region 1 with fail
  generalize ((((w.alloc (.cells #[.int .u32 (id : Int), .int .i64 m, .int .i64 c, .int .i64 r, .int .i64 l, .int .i64 h] 24)).alloc (.cells #[.slice A ys.length ca, .slice B gs.length cb] 28)).alloc (.cells #[.int .i64 number] 3)).alloc (.cells #[.slice none 0 0, .slice none 0 0] 28)).alloc (.cells #[.int .i64 0, .int .i64 0, .slice none 0 0, .int .i64 0] 53) = W at *
  have c0 := C0.cell
  have p0 := P0.cell
  have n0 := N0.cell
  have z0 := Z0.cell
  have zf0 := Z0.free
  have yc0 := Y0.cell
  have yf0 := Y0.free
  go_wp2_with fail
  refine (HPC.out _ t0).mono ?_
  rintro e w1 ⟨h1, b1⟩
  clear c0 p0 n0 z0 zf0 yc0 yf0
  have C1 := C0.next b1
  have P1 := P0.next b1
  have N1 := N0.next b1
  have Z1 := Z0.next b1
  have Y1 := Y0.next b1
  have t1 := Ext.trans t0 b1
  clear C0 P0 N0 Z0 Y0 t0
  clear b1
  rcases h1 with ⟨hok, rfl⟩ | ⟨hno, rfl⟩
  · have HOK := Lib.hid hok
    clear hok
    have c1 := C1.cell
    have p1 := P1.cell
    have n1 := N1.cell
    have z1 := Z1.cell
    have zf1 := Z1.free
    have yc1 := Y1.cell
    have yf1 := Y1.free
    go_wp2_with fail
    refine (HTW.out _ t1).mono ?_
    rintro e w2 ⟨h2, b2⟩
    obtain ⟨R, cR, B', d', By, rfl, hcR, hd', hM, hG, hBy⟩ := h2.state (by have h3 := Cfg.crm HOK.out.cfg; have h4 := HOK.out.len; omega) (fun i hi => by have := (HOK.out.row hi).1; omega)
    clear c1 p1 n1 z1 zf1 yc1 yf1
    obtain ⟨lo, hlo⟩ : ∃ z : Nat, z = w1.heap.size := ⟨_, rfl⟩
    rw [← hlo] at hM hG hBy
    have hlw : w.heap.size + 4 < lo := by have := Y1.lt; omega
    have hl2 : lo ≤ w2.heap.size := by rw [hlo]; exact b2.size
    have C2 := C1.next b2
    have P2 := P1.next b2
    have N2 := N1.next b2
    have Z2 := Z1.next b2
    have Y2 := Y1.next b2
    have t2 := Ext.trans t1 b2
    clear C1 P1 N1 Z1 Y1 t1
    have b4 := Ext.alloc (Below.refl w2.heap.size w2) (.cells #[.slice (some ⟨R, 0, none⟩) ys.length cR, .slice B' gs.length d'] 28)
    have O4 := BoxOf.new w2 #[.slice (some ⟨R, 0, none⟩) ys.length cR, .slice B' gs.length d'] 28
    have hBl : ∀ b, By b → b < w2.heap.size := fun b hb => (hBy b hb).2.1
    have hM4 := hM.mono b4 hBl (fun _ h => h) (fun _ _ h => h)
    have hG4 := hG.mono b4 hBl (fun _ h => h) (fun _ _ h => h)
    have hBy4 : ∀ b, By b → NewB lo (w2.alloc (.cells #[.slice (some ⟨R, 0, none⟩) ys.length cR, .slice B' gs.length d'] 28)) b := fun b hb => newB_next (hBy b hb) b4.size (b4.block b (hBl b hb))
    have HLW := Lib.hid (And.intro hlw hl2)
    have HBl := Lib.hid hBl
    clear b2 h2 hM hG hBy hBl hlo hlw hl2
    go_upto_region 5 with fail
    obtain ⟨go, hgo⟩ : ∃ z : Nat, z = w2.heap.size := ⟨_, rfl⟩
    rw [← hgo] at O4 ⊢
    have HGO := Lib.hid hgo
    have HBG4 : Hid (∀ b, By b → b < go) := fun b hb => by have := HBl.out b hb; omega
    have hl4 := b4.size
    rw [← hgo] at hl4
    clear hgo
    have C4 := C2.next b4
    have P4 := P2.next b4
    have N4 := N2.next b4
    have Z4 := Z2.next b4
    have Y4 := Y2.next b4
    have t4 := Ext.trans t2 b4
    clear C2 P2 N2 Z2 Y2 t2
    generalize w2.alloc (.cells #[.slice (some ⟨R, 0, none⟩) ys.length cR, .slice B' gs.length d'] 28) = w4 at *
    have HRG := Lib.hid (hG4.rdin hd' (by have := HOK.out.few; omega) hBy4)
    have HM4 := Lib.hid hM4
    have HG4 := Lib.hid hG4
    have HBY4 := Lib.hid hBy4
    have HCR := Lib.hid hcR
    have HD' := Lib.hid hd'
    clear hM4 hG4 hBy4 hcR hd' b4
    have o4 := O4.cell
    have c4 := C4.cell
    have p4 := P4.cell
    have n4 := N4.cell
    have z4 := Z4.cell
    have zf4 := Z4.free
    have yc4 := Y4.cell
    have yf4 := Y4.free
    have HIF := Lib.hid (idxf_end (NewB lo w4) gs B' d' number (w.heap.size + 2) w4 HRG.out N4)
    go_wp2_with fail
    refine HIF.out.mono ?_
    rintro e w5 ⟨hf, b5⟩
    clear c4 p4 n4 z4 zf4 yc4 yf4 o4
    have O5 := O4.next b5
    have hl45 := b5.size
    have HL45 : Hid (w2.heap.size ≤ w5.heap.size) := by show _ ≤ _; have := HGO.out; omega
    have HO5 := Lib.hid O5
    have HBG : Hid (∀ b, By b → b < go) := HBG4
    have hM5 := Lib.hid (HM4.out.mono b5 (fun b hb => (HBY4.out b hb).2.1) (fun _ h => h) (fun _ _ h => h))
    have hG5 := Lib.hid (HG4.out.mono b5 (fun b hb => (HBY4.out b hb).2.1) (fun _ h => h) (fun _ _ h => h))
    have hBy5 : Hid (∀ b, By b → NewB lo w5 b) := fun b hb => newB_next (HBY4.out b hb) b5.size (b5.block b (HBY4.out b hb).2.1)
    have C5 := C4.next b5
    have P5 := P4.next b5
    have N5 := N4.next b5
    have Z5 := Z4.next b5
    have Y5 := Y4.next b5
    have t5 := Ext.trans t4 b5
    clear C4 P4 N4 Z4 Y4 t4
    clear HM4 HG4 HBY4 b5 HRG HIF O4
    have o5 := O5.cell
    have of5 := O5.free
    have c5 := C5.cell
    have p5 := P5.cell
    have n5 := N5.cell
    have z5 := Z5.cell
    have zf5 := Z5.free
    have yc5 := Y5.cell
    have yf5 := Y5.free
    rcases hf with ⟨j, hj, rfl, hnum⟩ | ⟨rfl, hnone⟩
    · have hnu := numE_eq.1 hnum
      obtain ⟨G, o, cells, Ab, cb', Am, cm, By', rfl, g1, g2, ⟨q0, q1, q2, q3, q4, q5⟩, g3, g4, g5, g6, g7, g8⟩ := hG5.out.del (fun b hb => (hBy5.out b hb).2.1) HD'.out.1 hj
      have HONE := Lib.hid (HOK.out.goes j hj).1
      have HMKS := Lib.hid (HOK.out.marks hj)
      have HERA := Lib.hid (HOK.out.erase hj)
      have HLE : Hid ((gs.eraseIdx j).length = gs.length - 1) := List.length_eraseIdx_of_lt hj
      have HEA : Hid (endAll ys gs j = endS ((kiOf gs[j]).toNat : Int) (datOf gs[j]) (atOf gs[j]).toNat (manyOf gs[j]).toNat (marksS (mksOf gs[j]) (mksOf gs[j]).length (ys, gs.eraseIdx j))) := by
        show endAll ys gs j = _
        unfold endAll
        rw [List.getElem?_eq_getElem hj]
      have HNU : Hid (∃ h : j < gs.length, nuOf gs[j] = number) := ⟨hj, hnu⟩
      generalize hgj : gs[j] = gj at *
      obtain ⟨aok1, aok2, aok3, aok4, aok5, _⟩ := askCode_0 HONE.out.2.1
      obtain ⟨a, ha⟩ : ∃ a : Nat, atOf gj = (a : Int) := ⟨(atOf gj).toNat, by omega⟩
      obtain ⟨y, hy⟩ : ∃ y : Nat, manyOf gj = (y : Int) := ⟨(manyOf gj).toNat, by omega⟩
      have HAYL : Hid (y ≤ 8 ∧ a + y ≤ ys.length ∧ (kBytes ((kiOf gj).toNat : Int) = true → y * 128 ≤ (datOf gj).length)) := by
        have h1 := HOK.out.len
        unfold Placed at aok2
        unfold kWant at aok3
        refine ⟨by omega, ?_, fun hk => ?_⟩
        · rw [ha, hy] at aok2
          rcases aok2 with h2 | h2
          · have := h2.2.2.2.2; omega
          · have := h2.2.2; omega
        · rw [if_pos hk, hy] at aok3
          omega
      rw [ha, hy, Int.toNat_natCast, Int.toNat_natCast] at HEA
      rw [ha] at q2
      rw [hy] at q3
      have HHY := Lib.hid hy
      clear aok1 aok2 aok3 aok4 aok5
      have HGJ := Lib.hid hgj
      have HJ := Lib.hid hj
      have HGR := Lib.hid (And.intro g1 (And.intro g2 g3))
      have HBB := Lib.hid (And.intro g4 g5)
      have HGG : Hid (lo ≤ G) := by
        rcases hG5.out with h | ⟨G2, o2, _, _, e, _, h, _⟩
        · rw [h] at hj; simp at hj
        · injection e with e; injection e with e; show lo ≤ G; rw [e]; exact h.1
      have HRB := Lib.hid g6
      have HRM := Lib.hid g7
      have HDEL := Lib.hid g8
      have hj0 : decide ((j : Int) < 0) = false := decide_eq_false (by omega)
      clear ha hy hgj hnu hnum g1 g2 g3 g4 g5 g6 g7 g8
      have X6 := BoxOf.new w5 #[.int .i64 (nuOf gj), .int .u8 ((kiOf gj).toNat : Int), .int .i64 (a : Int), .int .i64 (y : Int), .slice Ab (datOf gj).length cb', .slice Am (mksOf gj).length cm] 64
      have b6 := Ext.alloc (Below.refl w5.heap.size w5) (.cells #[.int .i64 (nuOf gj), .int .u8 ((kiOf gj).toNat : Int), .int .i64 (a : Int), .int .i64 (y : Int), .slice Ab (datOf gj).length cb', .slice Am (mksOf gj).length cm] 64)
      go_upto_region 9 with fail
      obtain ⟨gx, hgx⟩ : ∃ z : Nat, z = w5.heap.size := ⟨_, rfl⟩
      rw [← hgx] at X6 ⊢
      have HGX := Lib.hid hgx
      clear hgx c5 p5 n5 z5 zf5 yc5 yf5 o5 of5 q0 q1 q2 q3 q4 q5
      have HB6 := Lib.hid b6
      have hl56 := b6.size
      have O6 := O5.next b6
      have C6 := C5.next b6
      have P6 := P5.next b6
      have N6 := N5.next b6
      have Z6 := Z5.next b6
      have Y6 := Y5.next b6
      have t6 := Ext.trans t5 b6
      clear C5 P5 N5 Z5 Y5 t5
      generalize w5.alloc (.cells #[.int .i64 (nuOf gj), .int .u8 ((kiOf gj).toNat : Int), .int .i64 (a : Int), .int .i64 (y : Int), .slice Ab (datOf gj).length cb', .slice Am (mksOf gj).length cm] 64) = w6 at *
      clear b6 O5
      have o6 := O6.cell
      have hw1 : wrap64 ((j : Int) + 1) = ((j + 1 : Nat) : Int) := by
        have := HOK.out.few
        have := HJ.out
        rw [IntWalk.wrap64_in _ (by omega)]
        rfl
      have HDC := Lib.hid (delG_any G o gs.length d' j (j + 1) cells w6 (HGR.out.1.next HB6.out) HD'.out.1 HD'.out.2 HGR.out.2.1 (by omega) HJ.out HGR.out.2.2)
      go_wp2_with fail
      refine HDC.out.mono ?_
      rintro e w7 ⟨rfl, hD7⟩
      have hG6 : BoxOf w6 G cells 64 := HGR.out.1.next HB6.out
      have hBut : But 64 w6 w7 := But.grown hG6 hD7.1
      have hGlt := HGR.out.1.lt
      have C7 := C6.but hBut (by decide)
      have P7 := P6.but hBut (by decide)
      have N7 := N6.but hBut (by decide)
      have Z7 := Z6.but hBut (by decide)
      have Y7 := Y6.but hBut (by decide)
      have O7 := O6.but hBut (by decide)
      have X7 := X6.grown hD7.1 (fun e => by have := Option.some.inj e; have := HGX.out; omega)
      have ej : gs.length - (j + 1 - j) = (gs.eraseIdx j).length := by rw [HLE.out]; omega
      rw [ej]
      have hdel := HDEL.out w6 w7 HB6.out hD7
      have hM7 : MayS w7 By' lo R ys := by
        refine MayS.but (t := 64) (MayS.mono (hM5.out.more HBB.out.1 (fun b cs hb h => ?_)) HB6.out (fun b hb => ?_) (fun _ h => h) (fun _ _ h => h)) (by decide) (by decide) hBut (fun b hb => ?_)
        · rcases HBB.out.2 b h with h | ⟨cs2, _, h⟩
          · exact h
          · rcases hb with hb | hb
            · exact absurd rfl (box_diff h hb (by decide))
            · exact absurd rfl (box_diff h hb (by decide))
        · rcases HBB.out.2 b hb with h | ⟨cs2, _, h⟩
          · exact (hBy5.out b h).2.1
          · exact h.lt
        · have hlt5 : b < w5.heap.size := by
            rcases HBB.out.2 b hb with h | ⟨cs2, _, h⟩
            · exact (hBy5.out b h).2.1
            · exact h.lt
          rw [hdel.2 b hb, HB6.out.block b hlt5]
      have hBy7 : ∀ b, By' b → NewB lo w7 b := by
        intro b hb
        have hs : w5.heap.size ≤ w7.heap.size := Nat.le_trans HB6.out.size hD7.1.size
        rcases HBB.out.2 b hb with h | ⟨cs2, h1, h⟩
        · exact newB_next (hBy5.out b h) hs (hdel.2 b hb)
        · exact newB_next ⟨h1, h.lt, cs2, _, h⟩ hs (hdel.2 b hb)
      have hgo : ∀ b, By' b → b ≠ go := by
        intro b hb
        rcases HBB.out.2 b hb with h | ⟨cs2, _, h⟩
        · have := HBG.out b h; omega
        · exact box_diff h HO5.out (by decide)
      have f7 := O7.free
      have o7 := O7.cell
      have HM7 := Lib.hid hM7
      have HG7 := Lib.hid hdel.1
      have HBY7 := Lib.hid hBy7
      have HGOB := Lib.hid hgo
      have HRB7 : Hid (RdIn w7 By' (.sl .byte) (datOf gj) [.slice Ab (datOf gj).length cb']) := HRB.out.frame hdel.2
      have HRM7 : Hid (RdIn w7 By' (.sl .int) (mksOf gj) [.slice Am (mksOf gj).length cm]) := HRM.out.frame hdel.2
      have HG67 := Lib.hid hD7.1
      clear hM7 hBy7 hgo hdel hG6 hBut hGlt ej hD7 o6
      go_upto_region 10 with fail
      have O8 : BoxOf (w7.setCell ⟨go, 1, none⟩ (.slice (some ⟨G, o, none⟩) (gs.eraseIdx j).length d')) go #[.slice (some ⟨R, 0, none⟩) ys.length cR, .slice (some ⟨G, o, none⟩) (gs.eraseIdx j).length d'] 28 := mbox_self O7 1 (.slice (some ⟨G, o, none⟩) (gs.eraseIdx j).length d')
      have hB8 : But 28 w7 (w7.setCell ⟨go, 1, none⟩ (.slice (some ⟨G, o, none⟩) (gs.eraseIdx j).length d')) := But.setCell O7 _
      have hne3 : go ≠ w.heap.size + 3 := by have := HGO.out; have := HLW.out; omega
      have C8 := C7.but hB8 (by decide)
      have N8 := N7.but hB8 (by decide)
      have X8 := X7.but hB8 (by decide)
      have Y8 := Y7.but hB8 (by decide)
      have Z8 := mbox_else Z7 hne3.symm 1 (.slice (some ⟨G, o, none⟩) (gs.eraseIdx j).length d')
      have hs8 : (w7.setCell ⟨go, 1, none⟩ (.slice (some ⟨G, o, none⟩) (gs.eraseIdx j).length d')).heap.size = w7.heap.size := msize _ _ _
      have hbk : ∀ b, By' b → (w7.setCell ⟨go, 1, none⟩ (.slice (some ⟨G, o, none⟩) (gs.eraseIdx j).length d')).heap[b]? = w7.heap[b]? := fun b hb => Below.heap_setCell _ _ _ _ (HGOB.out b hb)
      have hM8 := Lib.hid (HM7.out.but (t := 28) (by decide) (by decide) hB8 hbk)
      have hG8 := Lib.hid (HG7.out.but (t := 28) (by decide) (by decide) hB8 hbk (fun _ h => h) (fun _ _ h => h))
      have hBy8 : Hid (∀ b, By' b → NewB lo (w7.setCell ⟨go, 1, none⟩ (.slice (some ⟨G, o, none⟩) (gs.eraseIdx j).length d')) b) := fun b hb => newB_next (HBY7.out b hb) (by rw [hs8]; exact Nat.le_refl _) (hbk b hb)
      have hD8 := Lib.hid (HRB7.out.frame hbk)
      have hR8 := Lib.hid (HRM7.out.frame hbk)
      have T8 : Hid (Below w.heap.size w (w7.setCell ⟨go, 1, none⟩ (.slice (some ⟨G, o, none⟩) (gs.eraseIdx j).length d')) ∧ lo ≤ (w7.setCell ⟨go, 1, none⟩ (.slice (some ⟨G, o, none⟩) (gs.eraseIdx j).length d')).heap.size) := by
        have hgl := HGR.out.1.lt
        have h1 : w.heap.size ≤ G := by have := (HGG.out); have := HLW.out; omega
        have h2 := HG67.out.size
        have h3 := HB6.out.size
        refine ⟨Below.setCell (Below.grown t6 HG67.out t6.size (fun k e => by have := Option.some.inj e; omega)) (by have := HGO.out; have := HLW.out; show w.heap.size ≤ go; omega) _, ?_⟩
        rw [hs8]
        have := HLW.out
        have := HL45.out
        omega
      clear C7 P7 N7 Z7 Y7 O7 X7 hB8 hs8 hbk HM7 HG7 HBY7 HRB7 HRM7 f7 o7 t6 hne3
      generalize w7.setCell ⟨go, 1, none⟩ (.slice (some ⟨G, o, none⟩) (gs.eraseIdx j).length d') = w8 at *
      have x8 := X8.cell
      have HSE := Lib.hid (send_any ⟨id, m, c, r, l, h⟩ By' lo R cR (some ⟨G, o, none⟩) d' (ys, gs.eraseIdx j) go (nuOf gj) (kiOf gj) a y (datOf gj) (mksOf gj) Ab cb' Am cm w8 O8 hM8.out hG8.out hBy8.out T8.out.2 HERA.out HAYL.out.1 HAYL.out.2.1 HAYL.out.2.2 (by
        rcases HMKS.out.1 with h | h
        · rw [h]; simp
        · exact Nat.le_of_eq h) (fun q hq => HMKS.out.2 q hq) hD8.out hR8.out)
      clear O6 hM5 hG5
      go_wp2_with fail
      refine HSE.out.mono ?_
      rintro e w9 ⟨hsd, hkp⟩
      have t9 := Below.trans T8.out.1 (Below.mono hkp.below (by have := HLW.out; omega))
      have Z9 := hkp.box _ _ _ Z8 (by decide) (by decide) (by decide)
      have Y9 := hkp.box _ _ _ Y8 (by decide) (by decide) (by decide)
      have X9 := hkp.box _ _ _ X8 (by decide) (by decide) (by decide)
      have O9 := hkp.box _ _ _ O8 (by decide) (by decide) (by decide)
      have N9 : BoxOf w9 (w.heap.size + 2) #[.int .i64 number] 3 := by
        unfold BoxOf at *
        rw [hkp.below.block _ (by have := HLW.out; omega)]
        exact N8
      have hl9 := hkp.below.size
      clear x8 X8 O8 Z8 Y8 N8 C8 hkp HSE
      have z9 := Z9.cell
      have zf9 := Z9.free
      have yc9 := Y9.cell
      have yf9 := Y9.free
      rcases hsd with ⟨hno, rfl⟩ | ⟨tt, dat, DD, dq, hsome, rfl, hdat, hE⟩
      · have HNONE : Hid (endAll ys gs j = none) := HEA.out.trans hno
        clear hno X9 O9 N9
        go_wp2
        have B5 := mbox_self (mbox_self Z9 0 (.slice none 0 0)) 1 (.slice none 0 0)
        have B6 := mbox_self (mbox_self (mbox_self (mbox_self (mbox_else (mbox_else Y9 (show w.heap.size + 4 ≠ w.heap.size + 3 by omega) 0 (.slice none 0 0)) (show w.heap.size + 4 ≠ w.heap.size + 3 by omega) 1 (.slice none 0 0)) 0 (.int .i64 0)) 1 (.int .i64 0)) 2 (.slice none 0 0)) 3 (.int .i64 0)
        have B7 := mbox_else (mbox_else (mbox_else (mbox_else B5 (show w.heap.size + 3 ≠ w.heap.size + 4 by omega) 0 (.int .i64 0)) (show w.heap.size + 3 ≠ w.heap.size + 4 by omega) 1 (.int .i64 0)) (show w.heap.size + 3 ≠ w.heap.size + 4 by omega) 2 (.slice none 0 0)) (show w.heap.size + 3 ≠ w.heap.size + 4 by omega) 3 (.int .i64 0)
        have T5 := Below.setCell (p := ⟨w.heap.size + 4, 3, none⟩) (Below.setCell (p := ⟨w.heap.size + 4, 2, none⟩) (Below.setCell (p := ⟨w.heap.size + 4, 1, none⟩) (Below.setCell (p := ⟨w.heap.size + 4, 0, none⟩) (Below.setCell (p := ⟨w.heap.size + 3, 1, none⟩) (Below.setCell (p := ⟨w.heap.size + 3, 0, none⟩) t9 (show w.heap.size ≤ w.heap.size + 3 by omega) (.slice none 0 0)) (show w.heap.size ≤ w.heap.size + 3 by omega) (.slice none 0 0)) (show w.heap.size ≤ w.heap.size + 4 by omega) (.int .i64 0)) (show w.heap.size ≤ w.heap.size + 4 by omega) (.int .i64 0)) (show w.heap.size ≤ w.heap.size + 4 by omega) (.slice none 0 0)) (show w.heap.size ≤ w.heap.size + 4 by omega) (.int .i64 0)
        exact bodyPost_ret (v := .tuple #[.agg #[.slice none 0 0, .slice none 0 0], .agg #[.int .i64 0, .int .i64 0, .slice none 0 0, .int .i64 0], .int .i64 9]) (Eq.trans (results_rows3 (P := Try.prog) (fn := Try.f23) (p := 6) (q := 7) (u := 8) rfl _ _ (w.heap.size + 3) 28 #[.slice none 0 0, .slice none 0 0] (w.heap.size + 4) 53 #[.int .i64 0, .int .i64 0, .slice none 0 0, .int .i64 0] rfl rfl B7 B6 _ _ Try.underlying28 Try.underlying53 rfl rfl (by kernel_rfl) (by kernel_rfl)) rfl) rfl ⟨EndIs.err (.inr (.inr (.inl ⟨HOK.out, ⟨j, HJ.out, (by obtain ⟨_, h⟩ := HNU.out; exact h), HNONE.out⟩, rfl, rfl, rfl, rfl, rfl, rfl⟩))), T5⟩
      · have HSOME : Hid (endAll ys gs j = some (tt, dat)) := HEA.out.trans hsome
        have HE := Lib.hid hE
        have HDAT := Lib.hid hdat
        clear hsome hE hdat
        go_upto_region 13 with fail
        refine wp_region_held_drew (S := fun w' => (∀ p, w'.cell? ⟨go, p, none⟩ = (#[.slice (some ⟨R, 0, none⟩) ys.length cR, .slice (some ⟨G, o, none⟩) (gs.eraseIdx j).length d'] : Array Value).toList[p]?) ∧ (∀ p, w'.cell? ⟨w.heap.size + 1 + 1, p, none⟩ = (#[.int .i64 number] : Array Value).toList[p]?) ∧ ∀ p, w'.cell? ⟨gx, p, none⟩ = (#[.int .i64 (nuOf gj), .int .u8 ((kiOf gj).toNat : Int), .int .i64 (a : Int), .int .i64 (y : Int), .slice Ab (datOf gj).length cb', .slice Am (mksOf gj).length cm] : Array Value).toList[p]?) (by kernel_rfl) ⟨O9.drew.cell, N9.drew.cell, X9.drew.cell⟩ (fun hS => ?_)
        clear z9 yc9 zf9 yf9
        refine wpAnyH_take (i := 0) (oi := _) (v := ?_) rfl (by kernel_rfl) (by kernel_rfl) (by kernel_rfl) (fun _ _ _ h => h) (Or.inl ⟨by rfl, ?_⟩) hS ?_
        rotate_left
        · (intro w hSw; (try dsimp only at hSw); go_simp; (try with_reducible rfl))
        rotate_left
        simp only [Act.put, List.getElem_toArray, List.getElem_cons_zero, List.getElem_cons_succ, List.setIfInBounds_toArray, List.set_cons_zero, List.set_cons_succ]
        refine wpAnyH_take (i := 1) (oi := _) (v := ?_) rfl (by kernel_rfl) (by kernel_rfl) (by kernel_rfl) (fun _ _ _ h => h) (Or.inl ⟨by rfl, ?_⟩) hS ?_
        rotate_left
        · (intro w hSw; (try dsimp only at hSw); go_simp; (try with_reducible rfl))
        rotate_left
        simp only [Act.put, List.getElem_toArray, List.getElem_cons_zero, List.getElem_cons_succ, List.setIfInBounds_toArray, List.set_cons_zero, List.set_cons_succ]
        refine wpAnyH_take (i := 2) (oi := _) (v := ?_) rfl (by kernel_rfl) (by kernel_rfl) (by kernel_rfl) (fun _ _ _ h => h) (Or.inl ⟨by rfl, ?_⟩) hS ?_
        rotate_left
        · (intro w hSw; (try dsimp only at hSw); go_simp; (try with_reducible rfl))
        rotate_left
        simp only [Act.put, List.getElem_toArray, List.getElem_cons_zero, List.getElem_cons_succ, List.setIfInBounds_toArray, List.set_cons_zero, List.set_cons_succ]
        refine wpAnyH_take (i := 3) (oi := _) (v := ?_) rfl (by kernel_rfl) (by kernel_rfl) (by kernel_rfl) (fun _ _ _ h => h) (Or.inl ⟨by rfl, ?_⟩) hS ?_
        rotate_left
        · (intro w hSw; (try dsimp only at hSw); go_simp; (try with_reducible rfl))
        rotate_left
        simp only [Act.put, List.getElem_toArray, List.getElem_cons_zero, List.getElem_cons_succ, List.setIfInBounds_toArray, List.set_cons_zero, List.set_cons_succ]
        refine wpAnyH_take (i := 4) (oi := _) (v := ?_) rfl (by kernel_rfl) (by kernel_rfl) (by kernel_rfl) (fun _ _ _ h => h) (Or.inl ⟨by rfl, ?_⟩) hS ?_
        rotate_left
        · (intro w hSw; (try dsimp only at hSw); go_simp; (try with_reducible rfl))
        rotate_left
        simp only [Act.put, List.getElem_toArray, List.getElem_cons_zero, List.getElem_cons_succ, List.setIfInBounds_toArray, List.set_cons_zero, List.set_cons_succ]
        refine wpAnyH_take (i := 5) (oi := _) (v := ?_) rfl (by kernel_rfl) (by kernel_rfl) (by kernel_rfl) (fun _ _ _ h => h) (Or.inl ⟨by rfl, ?_⟩) hS ?_
        rotate_left
        · (intro w hSw; (try dsimp only at hSw); go_simp; (try with_reducible rfl))
        rotate_left
        simp only [Act.put, List.getElem_toArray, List.getElem_cons_zero, List.getElem_cons_succ, List.setIfInBounds_toArray, List.set_cons_zero, List.set_cons_succ]
        refine wpAnyH_take (i := 6) (oi := _) (v := ?_) rfl (by kernel_rfl) (by kernel_rfl) (by kernel_rfl) (fun _ _ _ h => h) (Or.inl ⟨by rfl, ?_⟩) hS ?_
        rotate_left
        · (intro w hSw; (try dsimp only at hSw); go_simp; (try with_reducible rfl))
        rotate_left
        simp only [Act.put, List.getElem_toArray, List.getElem_cons_zero, List.getElem_cons_succ, List.setIfInBounds_toArray, List.set_cons_zero, List.set_cons_succ]
        have Zd := Z9.drew
        have Yd := Y9.drew
        have Od := O9.drew
        have Nd := N9.drew
        have Xd := X9.drew
        have td := Ext.drew t9
        have HED := Lib.hid (HE.out.next (Ext.drew (Below.refl w9.heap.size w9)) (by have := T8.out.2; omega))
        have HDD := Lib.hid (HDAT.out.below (Ext.drew (Below.refl w9.heap.size w9)))
        have hld : Hid (w9.heap.size = w9.drew.heap.size) := rfl
        have hDW : Hid (∀ b : Nat, w9.drew.heap[b]? = w9.heap[b]?) := fun b => rfl
        clear Z9 Y9 O9 N9 X9 t9 HE HDAT
        generalize w9.drew = wd at *
        refine wpAnyH_ready (rs := [7]) (by kernel_rfl) (by simp) ?_
        refine AllReadyH.cons rfl (fun K hK => ?_) AllReadyH.nil
        rw [if_pos (by rfl)]
        have zf := Zd.free
        have zc := Zd.cell
        go_simp
        clear zf zc
        have hg3 : go ≠ w.heap.size + 3 := by have := HGO.out; have := HLW.out; omega
        have hg4 : go ≠ w.heap.size + 4 := by have := HGO.out; have := HLW.out; omega
        have hx3 : gx ≠ w.heap.size + 3 := by have := HGX.out; have := HLW.out; have := HL45.out; omega
        have hx4 : gx ≠ w.heap.size + 4 := by have := HGX.out; have := HLW.out; have := HL45.out; omega
        have Ze : BoxOf _ (w.heap.size + 3) #[.slice (some ⟨R, 0, none⟩) ys.length cR, .slice (some ⟨G, o, none⟩) (gs.eraseIdx j).length d'] 28 := mbox_self (mbox_self Zd 0 (.slice (some ⟨R, 0, none⟩) ys.length cR)) 1 (.slice (some ⟨G, o, none⟩) (gs.eraseIdx j).length d')
        have Ye := mbox_else (mbox_else Yd (show w.heap.size + 4 ≠ w.heap.size + 3 by omega) 0 (.slice (some ⟨R, 0, none⟩) ys.length cR)) (show w.heap.size + 4 ≠ w.heap.size + 3 by omega) 1 (.slice (some ⟨G, o, none⟩) (gs.eraseIdx j).length d')
        have Oe := mbox_else (mbox_else Od hg3 0 (.slice (some ⟨R, 0, none⟩) ys.length cR)) hg3 1 (.slice (some ⟨G, o, none⟩) (gs.eraseIdx j).length d')
        have Ne := mbox_else (mbox_else Nd (show w.heap.size + 2 ≠ w.heap.size + 3 by omega) 0 (.slice (some ⟨R, 0, none⟩) ys.length cR)) (show w.heap.size + 2 ≠ w.heap.size + 3 by omega) 1 (.slice (some ⟨G, o, none⟩) (gs.eraseIdx j).length d')
        have Xe := mbox_else (mbox_else Xd hx3 0 (.slice (some ⟨R, 0, none⟩) ys.length cR)) hx3 1 (.slice (some ⟨G, o, none⟩) (gs.eraseIdx j).length d')
        refine hK.out _ _ ⟨Oe.cell, Ne.cell, Xe.cell⟩ (fun hS' => ?_)
        clear hK K hS
        have hS := hS'
        clear hS'
        try simp only [Act.put, List.getElem_toArray, List.getElem_cons_zero, List.getElem_cons_succ, List.setIfInBounds_toArray, List.set_cons_zero, List.set_cons_succ]
        refine wpAnyH_ready (rs := [8]) (by kernel_rfl) (by simp) ?_
        refine AllReadyH.cons rfl (fun K hK => ?_) AllReadyH.nil
        rw [if_pos (by rfl)]
        have yf := Ye.free
        have yc := Ye.cell
        go_simp
        clear yf yc
        have Yf : BoxOf _ (w.heap.size + 4) #[.int .i64 number, .int .i64 0, .slice DD dat.length dq, .int .i64 (y : Int)] 53 := mbox_self (mbox_self (mbox_self (mbox_self Ye 0 (.int .i64 number)) 1 (.int .i64 0)) 2 (.slice DD dat.length dq)) 3 (.int .i64 (y : Int))
        have Zf := mbox_else (mbox_else (mbox_else (mbox_else Ze (show w.heap.size + 3 ≠ w.heap.size + 4 by omega) 0 (.int .i64 number)) (show w.heap.size + 3 ≠ w.heap.size + 4 by omega) 1 (.int .i64 0)) (show w.heap.size + 3 ≠ w.heap.size + 4 by omega) 2 (.slice DD dat.length dq)) (show w.heap.size + 3 ≠ w.heap.size + 4 by omega) 3 (.int .i64 (y : Int))
        have Of := mbox_else (mbox_else (mbox_else (mbox_else Oe hg4 0 (.int .i64 number)) hg4 1 (.int .i64 0)) hg4 2 (.slice DD dat.length dq)) hg4 3 (.int .i64 (y : Int))
        have Nf := mbox_else (mbox_else (mbox_else (mbox_else Ne (show w.heap.size + 2 ≠ w.heap.size + 4 by omega) 0 (.int .i64 number)) (show w.heap.size + 2 ≠ w.heap.size + 4 by omega) 1 (.int .i64 0)) (show w.heap.size + 2 ≠ w.heap.size + 4 by omega) 2 (.slice DD dat.length dq)) (show w.heap.size + 2 ≠ w.heap.size + 4 by omega) 3 (.int .i64 (y : Int))
        have Xf := mbox_else (mbox_else (mbox_else (mbox_else Xe hx4 0 (.int .i64 number)) hx4 1 (.int .i64 0)) hx4 2 (.slice DD dat.length dq)) hx4 3 (.int .i64 (y : Int))
        have tf := Below.setCell (p := ⟨w.heap.size + 4, 3, none⟩) (Below.setCell (p := ⟨w.heap.size + 4, 2, none⟩) (Below.setCell (p := ⟨w.heap.size + 4, 1, none⟩) (Below.setCell (p := ⟨w.heap.size + 4, 0, none⟩) (Below.setCell (p := ⟨w.heap.size + 3, 1, none⟩) (Below.setCell (p := ⟨w.heap.size + 3, 0, none⟩) td (show w.heap.size ≤ w.heap.size + 3 by omega) (.slice (some ⟨R, 0, none⟩) ys.length cR)) (show w.heap.size ≤ w.heap.size + 3 by omega) (.slice (some ⟨G, o, none⟩) (gs.eraseIdx j).length d')) (show w.heap.size ≤ w.heap.size + 4 by omega) (.int .i64 number)) (show w.heap.size ≤ w.heap.size + 4 by omega) (.int .i64 0)) (show w.heap.size ≤ w.heap.size + 4 by omega) (.slice DD dat.length dq)) (show w.heap.size ≤ w.heap.size + 4 by omega) (.int .i64 (y : Int))
        refine hK.out _ _ ⟨Of.cell, Nf.cell, Xf.cell⟩ (fun hS' => ?_)
        clear hK K hS
        have hS := hS'
        clear hS'
        try simp only [Act.put, List.getElem_toArray, List.getElem_cons_zero, List.getElem_cons_succ, List.setIfInBounds_toArray, List.set_cons_zero, List.set_cons_succ]
        refine wpAnyH_take (i := 9) (oi := _) (v := ?_) rfl (by kernel_rfl) (by kernel_rfl) (by kernel_rfl) (fun _ _ _ h => h) (Or.inl ⟨by rfl, ?_⟩) hS ?_
        rotate_left
        · (intro w hSw; (try dsimp only at hSw); go_simp; (try with_reducible rfl))
        rotate_left
        simp only [Act.put, List.getElem_toArray, List.getElem_cons_zero, List.getElem_cons_succ, List.setIfInBounds_toArray, List.set_cons_zero, List.set_cons_succ]
        refine wpAnyH_done (by kernel_rfl) ?_ _
        clear hS
        go_wp2
        obtain ⟨p1, p2, p3⟩ := endAll_ok HOK.out HJ.out HSOME.out
        obtain ⟨By3, s1, s2, s3, s4, s5, s6⟩ := HED.out
        have hfr : ∀ b : Nat, lo ≤ b → ((((((wd.setCell ⟨w.heap.size + 3, 0, none⟩ (.slice (some ⟨R, 0, none⟩) ys.length cR)).setCell ⟨w.heap.size + 3, 1, none⟩ (.slice (some ⟨G, o, none⟩) (gs.eraseIdx j).length d')).setCell ⟨w.heap.size + 4, 0, none⟩ (.int .i64 number)).setCell ⟨w.heap.size + 4, 1, none⟩ (.int .i64 0)).setCell ⟨w.heap.size + 4, 2, none⟩ (.slice DD dat.length dq)).setCell ⟨w.heap.size + 4, 3, none⟩ (.int .i64 (y : Int))).heap[b]? = wd.heap[b]? := by
          intro b hb
          have := HLW.out
          rw [Below.heap_setCell _ _ _ _ (show b ≠ w.heap.size + 4 from fun e => by have := HLW.out; omega), Below.heap_setCell _ _ _ _ (show b ≠ w.heap.size + 4 from fun e => by have := HLW.out; omega), Below.heap_setCell _ _ _ _ (show b ≠ w.heap.size + 4 from fun e => by have := HLW.out; omega), Below.heap_setCell _ _ _ _ (show b ≠ w.heap.size + 4 from fun e => by have := HLW.out; omega), Below.heap_setCell _ _ _ _ (show b ≠ w.heap.size + 3 from fun e => by have := HLW.out; omega), Below.heap_setCell _ _ _ _ (show b ≠ w.heap.size + 3 from fun e => by have := HLW.out; omega)]
        have hsz : ((((((wd.setCell ⟨w.heap.size + 3, 0, none⟩ (.slice (some ⟨R, 0, none⟩) ys.length cR)).setCell ⟨w.heap.size + 3, 1, none⟩ (.slice (some ⟨G, o, none⟩) (gs.eraseIdx j).length d')).setCell ⟨w.heap.size + 4, 0, none⟩ (.int .i64 number)).setCell ⟨w.heap.size + 4, 1, none⟩ (.int .i64 0)).setCell ⟨w.heap.size + 4, 2, none⟩ (.slice DD dat.length dq)).setCell ⟨w.heap.size + 4, 3, none⟩ (.int .i64 (y : Int))).heap.size = wd.heap.size := by
          rw [msize, msize, msize, msize, msize, msize]
        have hbl : w.heap.size ≤ lo := by have := HLW.out; omega
        have RY := (s4.rdin (cR := cR) (by rw [p2]; exact HCR.out) p1.short s2 (fun i hi => Nat.le_trans (p1.row hi).2.1 (by decide))).rest hsz hfr hbl
        have RG := (s5.rdin (by rw [p3]; have := HD'.out; have := HLE.out; omega) (Nat.le_trans p1.few (by decide)) s2).rest hsz hfr hbl
        have RD : RdIn _ (NewB w.heap.size _) (.sl .byte) dat [.slice DD dat.length dq] := RdIn.rest (HDD.out.mono (S' := NewB lo wd) fun b hb => newB_next hb (by have := hld.out; omega) (hDW.out b)) hsz hfr hbl
        rw [p2] at RY
        rw [p3] at RG
        exact bodyPost_ret (v := .tuple #[.agg #[.slice (some ⟨R, 0, none⟩) ys.length cR, .slice (some ⟨G, o, none⟩) (gs.eraseIdx j).length d'], .agg #[.int .i64 number, .int .i64 0, .slice DD dat.length dq, .int .i64 (y : Int)], .int .i64 0]) (Eq.trans (results_rows3 (P := Try.prog) (fn := Try.f23) (p := 6) (q := 7) (u := 8) rfl _ _ (w.heap.size + 3) 28 _ (w.heap.size + 4) 53 _ rfl rfl Zf Yf _ _ Try.underlying28 Try.underlying53 rfl rfl (by kernel_rfl) (by kernel_rfl)) rfl) rfl ⟨⟨0, tt.1, tt.2, number, dat, (y : Int), some ⟨R, 0, none⟩, cR, some ⟨G, o, none⟩, d', DD, dq, by rw [p2, p3], .inr (.inr (.inr ⟨HOK.out, ⟨j, HJ.out, by obtain ⟨_, h⟩ := HNU.out; exact h, HSOME.out, by rw [HGJ.out]; exact HHY.out.symm⟩, rfl, rfl⟩)), by rw [p2]; exact RY, by rw [p3]; exact RG, RD⟩, tf⟩
    · have HNO : Hid (∀ j (h : j < gs.length), ¬ nuOf gs[j] = number) := fun j hj => numE_ne.1 (hnone j hj)
      clear hnone
      go_wp2
      have B5 := mbox_self (mbox_self Z5 0 (.slice none 0 0)) 1 (.slice none 0 0)
      have B6 := mbox_self (mbox_self (mbox_self (mbox_self (mbox_else (mbox_else Y5 (show w.heap.size + 4 ≠ w.heap.size + 3 by omega) 0 (.slice none 0 0)) (show w.heap.size + 4 ≠ w.heap.size + 3 by omega) 1 (.slice none 0 0)) 0 (.int .i64 0)) 1 (.int .i64 0)) 2 (.slice none 0 0)) 3 (.int .i64 0)
      have B7 := mbox_else (mbox_else (mbox_else (mbox_else B5 (show w.heap.size + 3 ≠ w.heap.size + 4 by omega) 0 (.int .i64 0)) (show w.heap.size + 3 ≠ w.heap.size + 4 by omega) 1 (.int .i64 0)) (show w.heap.size + 3 ≠ w.heap.size + 4 by omega) 2 (.slice none 0 0)) (show w.heap.size + 3 ≠ w.heap.size + 4 by omega) 3 (.int .i64 0)
      have T5 := Below.setCell (p := ⟨w.heap.size + 4, 3, none⟩) (Below.setCell (p := ⟨w.heap.size + 4, 2, none⟩) (Below.setCell (p := ⟨w.heap.size + 4, 1, none⟩) (Below.setCell (p := ⟨w.heap.size + 4, 0, none⟩) (Below.setCell (p := ⟨w.heap.size + 3, 1, none⟩) (Below.setCell (p := ⟨w.heap.size + 3, 0, none⟩) t5 (show w.heap.size ≤ w.heap.size + 3 by omega) (.slice none 0 0)) (show w.heap.size ≤ w.heap.size + 3 by omega) (.slice none 0 0)) (show w.heap.size ≤ w.heap.size + 4 by omega) (.int .i64 0)) (show w.heap.size ≤ w.heap.size + 4 by omega) (.int .i64 0)) (show w.heap.size ≤ w.heap.size + 4 by omega) (.slice none 0 0)) (show w.heap.size ≤ w.heap.size + 4 by omega) (.int .i64 0)
      exact bodyPost_ret (v := .tuple #[.agg #[.slice none 0 0, .slice none 0 0], .agg #[.int .i64 0, .int .i64 0, .slice none 0 0, .int .i64 0], .int .i64 6]) (Eq.trans (results_rows3 (P := Try.prog) (fn := Try.f23) (p := 6) (q := 7) (u := 8) rfl _ _ (w.heap.size + 3) 28 #[.slice none 0 0, .slice none 0 0] (w.heap.size + 4) 53 #[.int .i64 0, .int .i64 0, .slice none 0 0, .int .i64 0] rfl rfl B7 B6 _ _ Try.underlying28 Try.underlying53 rfl rfl (by kernel_rfl) (by kernel_rfl)) rfl) rfl ⟨EndIs.err (.inr (.inl ⟨HOK.out, HNO.out, rfl, rfl, rfl, rfl, rfl, rfl⟩)), T5⟩
  · have c1 := C1.cell
    have p1 := P1.cell
    have n1 := N1.cell
    have z1 := Z1.cell
    have zf1 := Z1.free
    have yc1 := Y1.cell
    have yf1 := Y1.free
    go_wp2
    have B5 := mbox_self (mbox_self Z1 0 (.slice none 0 0)) 1 (.slice none 0 0)
    have B6 := mbox_self (mbox_self (mbox_self (mbox_self (mbox_else (mbox_else Y1 (show w.heap.size + 4 ≠ w.heap.size + 3 by omega) 0 (.slice none 0 0)) (show w.heap.size + 4 ≠ w.heap.size + 3 by omega) 1 (.slice none 0 0)) 0 (.int .i64 0)) 1 (.int .i64 0)) 2 (.slice none 0 0)) 3 (.int .i64 0)
    have B7 := mbox_else (mbox_else (mbox_else (mbox_else B5 (show w.heap.size + 3 ≠ w.heap.size + 4 by omega) 0 (.int .i64 0)) (show w.heap.size + 3 ≠ w.heap.size + 4 by omega) 1 (.int .i64 0)) (show w.heap.size + 3 ≠ w.heap.size + 4 by omega) 2 (.slice none 0 0)) (show w.heap.size + 3 ≠ w.heap.size + 4 by omega) 3 (.int .i64 0)
    have T5 := Below.setCell (p := ⟨w.heap.size + 4, 3, none⟩) (Below.setCell (p := ⟨w.heap.size + 4, 2, none⟩) (Below.setCell (p := ⟨w.heap.size + 4, 1, none⟩) (Below.setCell (p := ⟨w.heap.size + 4, 0, none⟩) (Below.setCell (p := ⟨w.heap.size + 3, 1, none⟩) (Below.setCell (p := ⟨w.heap.size + 3, 0, none⟩) t1 (show w.heap.size ≤ w.heap.size + 3 by omega) (.slice none 0 0)) (show w.heap.size ≤ w.heap.size + 3 by omega) (.slice none 0 0)) (show w.heap.size ≤ w.heap.size + 4 by omega) (.int .i64 0)) (show w.heap.size ≤ w.heap.size + 4 by omega) (.int .i64 0)) (show w.heap.size ≤ w.heap.size + 4 by omega) (.slice none 0 0)) (show w.heap.size ≤ w.heap.size + 4 by omega) (.int .i64 0)
    exact bodyPost_ret (v := .tuple #[.agg #[.slice none 0 0, .slice none 0 0], .agg #[.int .i64 0, .int .i64 0, .slice none 0 0, .int .i64 0], .int .i64 8]) (Eq.trans (results_rows3 (P := Try.prog) (fn := Try.f23) (p := 6) (q := 7) (u := 8) rfl _ _ (w.heap.size + 3) 28 #[.slice none 0 0, .slice none 0 0] (w.heap.size + 4) 53 #[.int .i64 0, .int .i64 0, .slice none 0 0, .int .i64 0] rfl rfl B7 B6 _ _ Try.underlying28 Try.underlying53 rfl rfl (by kernel_rfl) (by kernel_rfl)) rfl) rfl ⟨EndIs.err (.inl ⟨hno, rfl, rfl, rfl, rfl, rfl, rfl⟩), T5⟩
end Go.Proofs.Ytclbihcggjjgaaa
/- Layer 30 (model), plainly: what each block has behind a request's end; what a crash may leave then. -/
namespace Go.Proofs.Ytclbihcggjjgaaa
open Go Go.RowKit
set_option linter.unusedVariables false

/-! ### rows -/
def rowAt (k : Int) (bs : List UInt8) (a i : Nat) (s : Ys × List GoTy.T) (c : Nat) : List (List UInt8) :=
  if kWrites k = true ∧ a ≤ c ∧ c < a + i then (if k = 3 then [blk k bs (c - a)] else s.1.getD c [] ++ [blk k bs (c - a)]) else s.1.getD c []
/-! ### hits -/
theorem someIs_map {α : Type} {p : α → Bool} {l : List α} : SomeIs p l ↔ true ∈ l.map p := by
  rw [List.mem_map]
  constructor
  · rintro ⟨i, hi, h⟩
    exact ⟨l[i], List.getElem_mem hi, h⟩
  · rintro ⟨x, hx, h⟩
    obtain ⟨i, hi, rfl⟩ := List.getElem_of_mem hx
    exact ⟨i, hi, h⟩
/-! ### what End leaves -/
structure EndAt (x : Cfg) (ys : Ys) (gs : List GoTy.T) (g : GoTy.T) (zs : Ys) (hs : List GoTy.T) (dat : List UInt8) (j a y : Nat) : Prop where
  ha : atOf g = (a : Int)
  hy : manyOf g = (y : Int)
  few : y ≤ 8
  fit : a + y ≤ ys.length
  bytes : kBytes ((kiOf g).toNat : Int) = true → y * 128 ≤ (datOf g).length
  none4 : ((kiOf g).toNat : Int) = 4 → y = 0
  write1 : kWrites ((kiOf g).toNat : Int) = true → 1 ≤ y
  marks : (((kiOf g).toNat : Int) = 4 ∧ (mksOf g).length = ys.length) ∨ (¬ ((kiOf g).toNat : Int) = 4 ∧ mksOf g = [])
  mark : ∀ q (hq : q < (mksOf g).length), ∃ hq' : q < ys.length, 0 ≤ (mksOf g)[q] ∧ (mksOf g)[q] < ((ys[q]).length : Int)
  ok : PlainOk x zs hs
  len : zs.length = ys.length
  hlen : hs.length = (gs.eraseIdx j).length
  row : ∀ c, zs.getD c [] = rowAt ((kiOf g).toNat : Int) (datOf g) a y (marksS (mksOf g) (mksOf g).length (ys, gs.eraseIdx j)) c
  mrow : ∀ q, (marksS (mksOf g) (mksOf g).length (ys, gs.eraseIdx j)).1.getD q [] = (ys.getD q []).drop ((mksOf g).getD q 0).toNat
  hits : ∀ n ds, hs.map (hitB n ds) = (gs.eraseIdx j).map (hitB n ds)
  data : endS ((kiOf g).toNat : Int) (datOf g) a y (marksS (mksOf g) (mksOf g).length (ys, gs.eraseIdx j)) = some ((zs, hs), dat)
/-! ### what may be left -/
theorem leftP_row {zs : Ys} {hs : List GoTy.T} {n : Nat} {ds : List UInt8} (hn : n < zs.length) : LeftP zs hs n ds ↔ ds ∈ zs.getD n [] ∨ true ∈ hs.map (hitB n ds) := by
  unfold LeftP
  rw [getD_lt hn]
  constructor
  · rintro (⟨_, h⟩ | h)
    · left
      rw [someIs_map, List.mem_map] at h
      obtain ⟨z, hz, he⟩ := h
      unfold eqBs at he
      rw [beq_iff_eq] at he
      rw [← he]; exact hz
    · exact .inr (someIs_map.1 h)
  · rintro (h | h)
    · exact .inl ⟨hn, someIs_map.2 (List.mem_map.2 ⟨ds, h, by unfold eqBs; simp⟩)⟩
    · exact .inr (someIs_map.2 h)
theorem mem_erase_hit {gs : List GoTy.T} {j : Nat} (hj : j < gs.length) {n : Int} {ds : List UInt8} (h : true ∈ (gs.eraseIdx j).map (hitB n ds)) : true ∈ gs.map (hitB n ds) := by
  rw [List.mem_map] at h ⊢
  obtain ⟨g, hg, e⟩ := h
  exact ⟨g, List.mem_of_mem_eraseIdx hg, e⟩
section
variable {x : Cfg} {ys : Ys} {gs : List GoTy.T} {g : GoTy.T} {zs : Ys} {hs : List GoTy.T} {dat : List UInt8} {j a y : Nat}
/-- nothing else comes -/
theorem EndAt.left (h : EndAt x ys gs g zs hs dat j a y) (hj : j < gs.length) (hg : gs[j] = g) {n : Nat} (hn : n < ys.length) {ds : List UInt8} (hl : LeftP zs hs n ds) : LeftP ys gs n ds := by
  have hn' : n < zs.length := by rw [h.len]; exact hn
  rw [leftP_row hn'] at hl
  rw [leftP_row hn]
  rcases hl with hl | hl
  · rw [h.row] at hl
    unfold rowAt at hl
    have hdrop : ∀ ds, ds ∈ (marksS (mksOf g) (mksOf g).length (ys, gs.eraseIdx j)).1.getD n [] → ds ∈ ys.getD n [] := fun ds hd => by
      rw [h.mrow] at hd
      exact List.mem_of_mem_drop hd
    split at hl
    · rename_i hw
      have hhit : ds = blk ((kiOf g).toNat : Int) (datOf g) (n - a) → true ∈ gs.map (hitB n ds) := fun e => by
        refine List.mem_map.2 ⟨g, by rw [← hg]; exact List.getElem_mem hj, ?_⟩
        unfold hitB
        rw [h.ha, h.hy, hw.1, decide_eq_true (show (a : Int) ≤ (n : Int) by omega), decide_eq_true (show (n : Int) < (a : Int) + (y : Int) by omega)]
        have e2 : ((n : Int) - (a : Int)).toNat = n - a := by omega
        rw [e2, e]
        simp
      split at hl
      · exact .inr (hhit (List.mem_singleton.1 hl))
      · rcases List.mem_append.1 hl with hl | hl
        · exact .inl (hdrop _ hl)
        · exact .inr (hhit (List.mem_singleton.1 hl))
    · exact .inl (hdrop _ hl)
  · rw [h.hits] at hl
    exact .inr (mem_erase_hit hj hl)
end
end Go.Proofs.Ytclbihcggjjgaaa
/- Layer 30 (model), plainly: behind a beginning, and behind a crash, a plain array may be; what each block has last. -/
namespace Go.Proofs.Ytclbihcggjjgaaa
open Go Go.RowKit
set_option linter.unusedVariables false

theorem ki_four {ki : UInt8} : ((ki.toNat : Nat) : Int) = 4 ↔ ki = 4 := by
  constructor
  · intro h
    have : ki.toNat = 4 := by omega
    exact UInt8.toNat_inj.1 (this.trans rfl)
  · intro h; subst h; rfl
theorem PlainOk.begin {x : Cfg} {ys : Ys} {gs : List GoTy.T} (h : PlainOk x ys gs) {number : Int} {ki : UInt8} {a y : Int} {bs : List UInt8} (hc : askCode x ((ki.toNat : Nat) : Int) a y bs.length = 0) (hn : 1 ≤ number ∧ ¬ SomeIs (numB number) gs) (hl : ¬ gs.length = 8) : PlainOk x ys (gs ++ [newGo number ki a y bs ys]) where
  cfg := h.cfg
  len := h.len
  few := by rw [List.length_append, List.length_singleton]; have := h.few; omega
  vals := h.vals
  goes := fun i hi => by
    rw [List.length_append, List.length_singleton] at hi
    by_cases hi2 : i < gs.length
    · have e : (gs ++ [newGo number ki a y bs ys])[i]'(by rw [List.length_append, List.length_singleton]; omega) = gs[i] := List.getElem_append_left hi2
      rw [e]
      refine ⟨(h.goes i hi2).1, fun h5 h6 => ?_⟩
      have e2 : (gs ++ [newGo number ki a y bs ys])[i - 1] = gs[i - 1]'(by omega) := List.getElem_append_left (by omega)
      rw [e2]
      exact (h.goes i hi2).2 (by omega) h6
    · have hie : i = gs.length := by omega
      subst hie
      have e : (gs ++ [newGo number ki a y bs ys])[gs.length]'(by rw [List.length_append, List.length_singleton]; omega) = newGo number ki a y bs ys := by
        rw [List.getElem_append_right (Nat.le_refl _)]; simp
      rw [e]
      refine ⟨⟨hn.1, hc, ?_⟩, fun h5 h6 => ?_⟩
      · show MarksOk ((ki.toNat : Nat) : Int) (mkOf ki ys) ys
        unfold MarksOk mkOf
        by_cases hk : ki = 4
        · rw [if_pos (ki_four.2 hk), if_pos hk]
          refine ⟨lastOf_len ys, fun q hq hq' => ?_⟩
          have e3 : (lastOf ys)[q] = ((ys[q]).length : Int) - 1 := by
            have e4 : (lastOf ys)[q]? = some (((ys[q]).length : Int) - 1) := by unfold lastOf; rw [List.getElem?_map, List.getElem?_eq_getElem hq']; rfl
            rw [List.getElem?_eq_getElem hq] at e4
            exact Option.some.inj e4
          rw [e3]
          have := (h.row hq').1
          omega
        · rw [if_neg (fun e => hk (ki_four.1 e)), if_neg hk]
          rfl
      · have e2 : (gs ++ [newGo number ki a y bs ys])[gs.length - 1] = gs[gs.length - 1]'(by omega) := List.getElem_append_left (by omega)
        rw [e2]
        show nuOf gs[gs.length - 1] < number
        by_cases h9 : number ≤ nuOf (gs[gs.length - 1]'(by omega))
        · exact absurd ⟨gs.length - 1, by omega, decide_eq_true h9⟩ hn.2
        · omega
theorem BegRel.ok {x : Cfg} {ys : Ys} {gs : List GoTy.T} {number : Int} {ki : UInt8} {a y : Int} {bs : List UInt8} {zs : Ys} {hs : List GoTy.T} (h : BegRel x ys gs number ki a y bs 0 zs hs) : zs = ys ∧ hs = gs ++ [newGo number ki a y bs ys] ∧ PlainOk x zs hs ∧ askCode x ((ki.toNat : Nat) : Int) a y bs.length = 0 := by
  rcases h with h | h | h | h | h
  · have := h.2.1; omega
  · exact absurd h.2.2.1.symm h.2.1
  · have := h.2.2.2.1; omega
  · have := h.2.2.2.2.1; omega
  · obtain ⟨h1, h2, h3, h4, _, rfl, rfl⟩ := h
    exact ⟨rfl, rfl, h1.begin h2 h3 h4, h2⟩
theorem BegRel.zero {x : Cfg} {ys : Ys} {gs : List GoTy.T} {number : Int} {ki : UInt8} {a y : Int} {bs : List UInt8} {v : Int} {zs : Ys} {hs : List GoTy.T} (h : BegRel x ys gs number ki a y bs v zs hs) (hp : PlainOk x ys gs) (hc : askCode x ((ki.toNat : Nat) : Int) a y bs.length = 0) (hn : 1 ≤ number ∧ ¬ SomeIs (numB number) gs) (hl : ¬ gs.length = 8) : v = 0 ∧ zs = ys ∧ hs = gs ++ [newGo number ki a y bs ys] := by
  rcases h with h | h | h | h | h
  · exact absurd hp h.1
  · exact absurd hc h.2.1
  · exact absurd hn h.2.2.1
  · exact absurd h.2.2.2.1 hl
  · exact ⟨h.2.2.2.2.1, h.2.2.2.2.2.1, h.2.2.2.2.2.2⟩
theorem EndRel.zero {x : Cfg} {ys : Ys} {gs : List GoTy.T} {number v : Int} {zs : Ys} {hs : List GoTy.T} {rn : Int} {dat : List UInt8} {many : Int} (h : EndRel x ys gs number v zs hs rn dat many) (hp : PlainOk x ys gs) {j : Nat} (hj : j < gs.length) (hn : nuOf gs[j] = number) {t : (Ys × List GoTy.T) × List UInt8} (ht : endAll ys gs j = some t) : v = 0 ∧ zs = t.1.1 ∧ hs = t.1.2 ∧ rn = number ∧ dat = t.2 ∧ many = manyOf gs[j] := by
  have h2 : EndRel x ys gs number 0 t.1.1 t.1.2 number t.2 (manyOf gs[j]) := .inr (.inr (.inr ⟨hp, ⟨j, hj, hn, ht, rfl⟩, rfl, rfl⟩))
  obtain ⟨a, b, c, d, e, f⟩ := h.one h2
  exact ⟨a, b, c, d, e, f⟩
theorem CrashRel.ok {x : Cfg} {ys : Ys} {gs : List GoTy.T} {bl : List (List UInt8)} (h : CrashRel x ys gs bl 0) : bl.length = ys.length ∧ PlainOk x (ones bl) [] := by
  rcases h with h | h | h | h | h
  · have := h.2; omega
  · have := h.2.2; omega
  · have := h.2.2.2; omega
  · have := h.2.2.2.2; omega
  · exact ⟨h.2.1, ones_plain h.1 h.2.1 h.2.2.1⟩

/-! ### what each block has last -/
def lastV (ys : Ys) (c : Nat) : List UInt8 := (ys.getD c []).getLastD []
theorem getLastD_push (l : List (List UInt8)) (v : List UInt8) : (l ++ [v]).getLastD [] = v := by
  rw [List.getLastD_eq_getLast?, List.getLast?_append]; rfl
theorem getLastD_drop {l : List (List UInt8)} {m : Nat} (h : m < l.length) : (l.drop m).getLastD [] = l.getLastD [] := by
  rw [List.getLastD_eq_getLast?, List.getLastD_eq_getLast?, List.getLast?_drop, if_neg (by omega)]
section
variable {x : Cfg} {ys : Ys} {gs : List GoTy.T} {g : GoTy.T} {zs : Ys} {hs : List GoTy.T} {dat : List UInt8} {j a y : Nat}
theorem EndAt.last (h : EndAt x ys gs g zs hs dat j a y) (hp : PlainOk x ys gs) {c : Nat} (hc : c < ys.length) : lastV zs c = if kWrites ((kiOf g).toNat : Int) = true ∧ a ≤ c ∧ c < a + y then blk ((kiOf g).toNat : Int) (datOf g) (c - a) else lastV ys c := by
  have hm : ((mksOf g).getD c 0).toNat < (ys[c]).length := by
    by_cases hq : c < (mksOf g).length
    · obtain ⟨_, h1, h2⟩ := h.mark c hq
      have e : (mksOf g).getD c 0 = (mksOf g)[c] := by rw [List.getD_eq_getElem?_getD, List.getElem?_eq_getElem hq]; rfl
      rw [e]
      omega
    · have e : (mksOf g).getD c 0 = 0 := by rw [List.getD_eq_getElem?_getD, List.getElem?_eq_none (by omega)]; rfl
      rw [e]
      have := (hp.row hc).1
      show 0 < _
      omega
  have hd : (marksS (mksOf g) (mksOf g).length (ys, gs.eraseIdx j)).1.getD c [] = (ys[c]).drop ((mksOf g).getD c 0).toNat := by rw [h.mrow, getD_lt hc]
  unfold lastV
  rw [h.row]
  unfold rowAt
  by_cases hw : kWrites ((kiOf g).toNat : Int) = true ∧ a ≤ c ∧ c < a + y
  · rw [if_pos hw, if_pos hw]
    split
    · rfl
    · exact getLastD_push _ _
  · rw [if_neg hw, if_neg hw, hd, getLastD_drop hm, getD_lt hc]
end
end Go.Proofs.Ytclbihcggjjgaaa
/- Layer 30 (model): ModelLeaves: what a crash may leave, and leaves. -/
namespace Go.Proofs.Ytclbihcggjjgaaa
open Go Go.RowKit
set_option linter.unusedSimpArgs false
set_option linter.unusedVariables false

theorem RdIn.tt {w : World} {S : Nat → Prop} {t : Ty} {x : t.T} {cs : List Value} (h : RdIn w S t x cs) : RdIn w (fun _ => True) t x cs := h.mono fun _ _ => trivial
end Go.Proofs.Ytclbihcggjjgaaa
