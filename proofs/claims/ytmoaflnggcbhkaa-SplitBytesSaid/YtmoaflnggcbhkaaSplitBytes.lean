/- Layer 8 (split): one byte more, one less. -/
import Derived.Test.YtmoaflnggcbhkaaSplit7
import Derived.Test.YtmoaflnggcbhkaaSplitLaws2
import Derived.Deep.DeepCutAuto
namespace Go.Proofs.Ytmoaflnggcbhkaa
open Go.RowKit
set_option linter.unusedSimpArgs false
set_option linter.unusedVariables false

structure ByS (w : World) (cc aa xx yy : Array Value) (gX gY : Nat) (wx : World) : Prop where
  t : Below w.heap.size w wx
  c : BoxOf wx w.heap.size cc 24
  a : BoxOf wx (w.heap.size + 1) aa 32
  x : BoxOf wx gX xx 32
  y : BoxOf wx gY yy 32
  hx : w.heap.size + 1 < gX
  hy : w.heap.size + 1 < gY
  hxy : gX ≠ gY
theorem ByS.next {w : World} {cc aa xx yy : Array Value} {gX gY : Nat} {wx w' : World} (h : ByS w cc aa xx yy gX gY wx) (b : Below wx.heap.size wx w') : ByS w cc aa xx yy gX gY w' :=
  ⟨Ext.trans h.t b, h.c.next b, h.a.next b, h.x.next b, h.y.next b, h.hx, h.hy, h.hxy⟩
theorem ByS.setX {w : World} {cc aa xx yy : Array Value} {gX gY : Nat} {wx : World} (h : ByS w cc aa xx yy gX gY wx) (i : Nat) (v : Value) : ByS w cc aa (xx.setIfInBounds i v) yy gX gY (wx.setCell ⟨gX, i, none⟩ v) :=
  have h1 := h.hx
  have h2 := h.hxy
  ⟨Below.setCell (p := ⟨gX, i, none⟩) h.t (by show w.heap.size ≤ gX; omega) _, h.c.setOther (by omega) _ _, h.a.setOther (by omega) _ _, h.x.setCell _ _, h.y.setOther (fun e => h2 e.symm) _ _, h.hx, h.hy, h.hxy⟩
theorem ByS.setY {w : World} {cc aa xx yy : Array Value} {gX gY : Nat} {wx : World} (h : ByS w cc aa xx yy gX gY wx) (i : Nat) (v : Value) : ByS w cc aa xx (yy.setIfInBounds i v) gX gY (wx.setCell ⟨gY, i, none⟩ v) :=
  have h1 := h.hy
  have h2 := h.hxy
  ⟨Below.setCell (p := ⟨gY, i, none⟩) h.t (by show w.heap.size ≤ gY; omega) _, h.c.setOther (by omega) _ _, h.a.setOther (by omega) _ _, h.x.setOther h2 _ _, h.y.setCell _ _, h.hx, h.hy, h.hxy⟩

set_option maxRecDepth 100000 in
set_option maxHeartbeats 2000000 in
theorem bytes_ok0 (x : Cfg) (k a y : Int) (A : Option Addr) (n q : Nat) (bs : List UInt8) (hn : n ≤ 5000) (hnq : n ≤ q) (hn0 : (n : Int) = 0)
    (h0' : ∀ A q W, Calls Try.prog 11 #[x.val, .agg #[.int .u8 k, .int .i64 a, .int .i64 y, .slice A n q]] W fun e w' => e = .returned (.int .i64 0) ∧ Below W.heap.size W w') (h1' : ∀ A q W, Calls Try.prog 11 #[x.val, .agg #[.int .u8 k, .int .i64 a, .int .i64 y, .slice A (n + 1) q]] W fun e w' => e = .returned (.int .i64 3) ∧ Below W.heap.size W w') (h2' : True) (w : World) (hr : Bs w A n bs) :
    Calls Try.prog 4 #[x.val, .agg #[.int .u8 k, .int .i64 a, .int .i64 y, .slice A n q]] w fun e w' => e = .returned (.bool true) ∧ Below w.heap.size w w' := by
  have H0 := Lib.hid h0'
  have H1 := Lib.hid h1'
  have H2 := Lib.hid h2'
  clear h0' h1' h2'
  obtain ⟨i0, hi, hz0, hz1, hz2⟩ := info_u8
  obtain ⟨id, m, c, r, l, h⟩ := x
  unfold Cfg.val at *
  dsimp only at *
  have hi1 : decide (5000 < (n : Int)) = false := decide_eq_false (by omega)
  have C0 := BoxOf.alloc (BoxOf.new w #[.int .u32 (id : Int), .int .i64 m, .int .i64 c, .int .i64 r, .int .i64 l, .int .i64 h] 24) (.cells #[.int .u8 k, .int .i64 a, .int .i64 y, .slice A n q] 32)
  have A0 := BoxOf.new' (w.alloc (.cells #[.int .u32 (id : Int), .int .i64 m, .int .i64 c, .int .i64 r, .int .i64 l, .int .i64 h] 24)) (w.heap.size + 1) #[.int .u8 k, .int .i64 a, .int .i64 y, .slice A n q] 32 (by simp)
  have t0 := Ext.alloc (Ext.alloc (Below.refl w.heap.size w) (.cells #[.int .u32 (id : Int), .int .i64 m, .int .i64 c, .int .i64 r, .int .i64 l, .int .i64 h] 24)) (.cells #[.int .u8 k, .int .i64 a, .int .i64 y, .slice A n q] 32)
  go_enter Try.func4, Try.ntmps4
  go_wp2_with fail
  refine (spalive_any _).mono ?_
  rintro e w1 ⟨rfl, b1⟩
  have x1 := (C0.next b1).cell
  have y1 := (A0.next b1).cell
  go_wp2_with fail
  refine (H0.out _ _ _).mono ?_
  rintro e w2 ⟨rfl, b2⟩
  clear x1 y1
  have y2 := ((A0.next b1).next b2).cell
  go_upto_region 4 with fail
  go_cut [6, 7] (fun s6 s7 wx => ∃ gX gY, s6 = .pointer (some ⟨gX, 0, none⟩) ∧ s7 = .pointer (some ⟨gY, 0, none⟩) ∧ ByS w #[.int .u32 (id : Int), .int .i64 m, .int .i64 c, .int .i64 r, .int .i64 l, .int .i64 h] #[.int .u8 k, .int .i64 a, .int .i64 y, .slice A n q] #[.int .u8 k, .int .i64 a, .int .i64 y, .slice A n q] #[.int .u8 k, .int .i64 a, .int .i64 y, .slice A n q] gX gY wx ∧ Bs wx A n bs)
  case first =>
    have b12 := Ext.trans b1 b2
    have Cq := (C0.next b12).drew
    have Aq := (A0.next b12).drew
    have tq := Ext.drew (Ext.trans t0 b12)
    have Rq := ((hr.below t0).below b12).below (Ext.drew (Below.refl w2.heap.size w2))
    have hl := (A0.next b12).lt
    refine wp_region_held_drew (S := fun w' => Below w2.drew.heap.size w2.drew w' ∧ (∀ o, w'.cell? ⟨w.heap.size + 1, o, none⟩ = #[.int .u8 k, .int .i64 a, .int .i64 y, .slice A n q].toList[o]?)) (by kernel_rfl) ⟨Below.refl _ _, Aq.cell⟩ (fun hS => ?_)
    have T0 : Below w2.drew.heap.size w2.drew w2.drew := Below.refl _ _
    have hl : w.heap.size + 1 < w2.drew.heap.size := hl
    generalize w2.drew = W at *
    refine wpAnyH_take (i := 0) (oi := _) (v := ?_) rfl (by kernel_rfl) (by kernel_rfl) (by kernel_rfl) (fun _ _ _ h => h) (Or.inl ⟨by rfl, ?_⟩) hS ?_
    rotate_left
    · (intro w hSw; (try dsimp only at hSw); go_simp; (try with_reducible rfl))
    rotate_left
    simp only [Act.put, List.getElem_toArray, List.getElem_cons_zero, List.getElem_cons_succ, List.setIfInBounds_toArray, List.set_cons_zero, List.set_cons_succ]
    refine wpAnyH_take (i := 1) (oi := _) (v := ?_) rfl (by kernel_rfl) (by kernel_rfl) (by kernel_rfl) (fun _ _ _ h => h) (Or.inl ⟨by rfl, ?_⟩) hS ?_
    rotate_left
    · (intro w hSw; (try dsimp only at hSw); go_simp; (try with_reducible rfl))
    rotate_left
    simp only [Act.put, List.getElem_toArray, List.getElem_cons_zero, List.getElem_cons_succ, List.setIfInBounds_toArray, List.set_cons_zero, List.set_cons_succ]
    refine wpAnyH_ready (rs := [2, 3]) (by kernel_rfl) (by simp) ?_
    refine AllReadyH.cons rfl (fun K hK => ?_) (AllReadyH.cons rfl (fun K hK => ?_) AllReadyH.nil)
    · rw [if_pos (by rfl)]
      go_simp
      have b := Ext.alloc (Below.refl W.heap.size W) (.cells #[.int .u8 0, .int .i64 0, .int .i64 0, .slice none 0 0] 32)
      have X1 := BoxOf.new W #[.int .u8 0, .int .i64 0, .int .i64 0, .slice none 0 0] 32
      have hX := T0.size
      generalize W.alloc (.cells #[.int .u8 0, .int .i64 0, .int .i64 0, .slice none 0 0] 32) = W1 at b X1 ⊢
      have T1 := Below.trans T0 (b.mono T0.size)
      skip
      refine hK.out _ _ ⟨T1, (Aq.next T1).cell⟩ (fun hS' => ?_)
      clear hK K hS b
      have hS := hS'
      clear hS'
      try simp only [Act.put, List.getElem_toArray, List.getElem_cons_zero, List.getElem_cons_succ, List.setIfInBounds_toArray, List.set_cons_zero, List.set_cons_succ]
      refine wpAnyH_ready (rs := [3]) (by kernel_rfl) (by simp) ?_
      refine AllReadyH.cons rfl (fun K hK => ?_) AllReadyH.nil
      rw [if_pos (by rfl)]
      go_simp
      have b := Ext.alloc (Below.refl W1.heap.size W1) (.cells #[.int .u8 0, .int .i64 0, .int .i64 0, .slice none 0 0] 32)
      have Y2 := BoxOf.new W1 #[.int .u8 0, .int .i64 0, .int .i64 0, .slice none 0 0] 32
      have hY := T1.size
      generalize W1.alloc (.cells #[.int .u8 0, .int .i64 0, .int .i64 0, .slice none 0 0] 32) = W2 at b Y2 ⊢
      have T2 := Below.trans T1 (b.mono T1.size)
      have X2 := X1.next b; have hXY := Nat.ne_of_lt X1.lt
      refine hK.out _ _ ⟨T2, (Aq.next T2).cell⟩ (fun hS' => ?_)
      clear hK K hS b
      have hS := hS'
      clear hS'
      try simp only [Act.put, List.getElem_toArray, List.getElem_cons_zero, List.getElem_cons_succ, List.setIfInBounds_toArray, List.set_cons_zero, List.set_cons_succ]
      refine wpAnyH_ready (rs := [4]) (by kernel_rfl) (by simp) ?_
      refine AllReadyH.cons rfl (fun K hK => ?_) AllReadyH.nil
      rw [if_pos (by rfl)]
      refine wp_store_row 32 (.tmp 6) (.tmp 20) rfl _ #[.int .u8 k, .int .i64 a, .int .i64 y, .slice A n q] rfl rfl 32 #[.int .u8 0, .int .i64 0, .int .i64 0, .slice none 0 0] X2 (by kernel_rfl) rfl (by kernel_rfl) ?_
      have X7 := BoxOf.set X2 #[.int .u8 k, .int .i64 a, .int .i64 y, .slice A n q]
      have Y7 := BoxOf.other Y2 hXY.symm #[.int .u8 k, .int .i64 a, .int .i64 y, .slice A n q]
      have T7 := below_setRow T2 hX #[.int .u8 k, .int .i64 a, .int .i64 y, .slice A n q]
      refine hK.out _ _ ⟨T7, (Aq.next T7).cell⟩ (fun hS' => ?_)
      clear hK K hS
      have hS := hS'
      clear hS'
      try simp only [Act.put, List.getElem_toArray, List.getElem_cons_zero, List.getElem_cons_succ, List.setIfInBounds_toArray, List.set_cons_zero, List.set_cons_succ]
      refine wpAnyH_ready (rs := [5]) (by kernel_rfl) (by simp) ?_
      refine AllReadyH.cons rfl (fun K hK => ?_) AllReadyH.nil
      rw [if_pos (by rfl)]
      refine wp_store_row 32 (.tmp 7) (.tmp 21) rfl _ #[.int .u8 k, .int .i64 a, .int .i64 y, .slice A n q] rfl rfl 32 #[.int .u8 0, .int .i64 0, .int .i64 0, .slice none 0 0] Y7 (by kernel_rfl) rfl (by kernel_rfl) ?_
      have Y8 := BoxOf.set Y7 #[.int .u8 k, .int .i64 a, .int .i64 y, .slice A n q]
      have X8 := BoxOf.other X7 hXY #[.int .u8 k, .int .i64 a, .int .i64 y, .slice A n q]
      have T8 := below_setRow T7 hY #[.int .u8 k, .int .i64 a, .int .i64 y, .slice A n q]
      refine hK.out _ _ ⟨T8, (Aq.next T8).cell⟩ (fun hS' => ?_)
      clear hK K hS hS'
      refine wpAnyH_done (by kernel_rfl) ?_ _
      go_wp2_with fail
      go_meet
      exact ⟨_, _, rfl, rfl, ⟨Ext.trans tq T8, Cq.next T8, Aq.next T8, X8, Y8, by omega, by omega, hXY⟩, Rq.below T8⟩
    · rw [if_pos (by rfl)]
      go_simp
      have b := Ext.alloc (Below.refl W.heap.size W) (.cells #[.int .u8 0, .int .i64 0, .int .i64 0, .slice none 0 0] 32)
      have Y1 := BoxOf.new W #[.int .u8 0, .int .i64 0, .int .i64 0, .slice none 0 0] 32
      have hY := T0.size
      generalize W.alloc (.cells #[.int .u8 0, .int .i64 0, .int .i64 0, .slice none 0 0] 32) = W1 at b Y1 ⊢
      have T1 := Below.trans T0 (b.mono T0.size)
      skip
      refine hK.out _ _ ⟨T1, (Aq.next T1).cell⟩ (fun hS' => ?_)
      clear hK K hS b
      have hS := hS'
      clear hS'
      try simp only [Act.put, List.getElem_toArray, List.getElem_cons_zero, List.getElem_cons_succ, List.setIfInBounds_toArray, List.set_cons_zero, List.set_cons_succ]
      refine wpAnyH_ready (rs := [2]) (by kernel_rfl) (by simp) ?_
      refine AllReadyH.cons rfl (fun K hK => ?_) AllReadyH.nil
      rw [if_pos (by rfl)]
      go_simp
      have b := Ext.alloc (Below.refl W1.heap.size W1) (.cells #[.int .u8 0, .int .i64 0, .int .i64 0, .slice none 0 0] 32)
      have X2 := BoxOf.new W1 #[.int .u8 0, .int .i64 0, .int .i64 0, .slice none 0 0] 32
      have hX := T1.size
      generalize W1.alloc (.cells #[.int .u8 0, .int .i64 0, .int .i64 0, .slice none 0 0] 32) = W2 at b X2 ⊢
      have T2 := Below.trans T1 (b.mono T1.size)
      have Y2 := Y1.next b; have hXY := Nat.ne_of_gt Y1.lt
      refine hK.out _ _ ⟨T2, (Aq.next T2).cell⟩ (fun hS' => ?_)
      clear hK K hS b
      have hS := hS'
      clear hS'
      try simp only [Act.put, List.getElem_toArray, List.getElem_cons_zero, List.getElem_cons_succ, List.setIfInBounds_toArray, List.set_cons_zero, List.set_cons_succ]
      refine wpAnyH_ready (rs := [4]) (by kernel_rfl) (by simp) ?_
      refine AllReadyH.cons rfl (fun K hK => ?_) AllReadyH.nil
      rw [if_pos (by rfl)]
      refine wp_store_row 32 (.tmp 6) (.tmp 20) rfl _ #[.int .u8 k, .int .i64 a, .int .i64 y, .slice A n q] rfl rfl 32 #[.int .u8 0, .int .i64 0, .int .i64 0, .slice none 0 0] X2 (by kernel_rfl) rfl (by kernel_rfl) ?_
      have X7 := BoxOf.set X2 #[.int .u8 k, .int .i64 a, .int .i64 y, .slice A n q]
      have Y7 := BoxOf.other Y2 hXY.symm #[.int .u8 k, .int .i64 a, .int .i64 y, .slice A n q]
      have T7 := below_setRow T2 hX #[.int .u8 k, .int .i64 a, .int .i64 y, .slice A n q]
      refine hK.out _ _ ⟨T7, (Aq.next T7).cell⟩ (fun hS' => ?_)
      clear hK K hS
      have hS := hS'
      clear hS'
      try simp only [Act.put, List.getElem_toArray, List.getElem_cons_zero, List.getElem_cons_succ, List.setIfInBounds_toArray, List.set_cons_zero, List.set_cons_succ]
      refine wpAnyH_ready (rs := [5]) (by kernel_rfl) (by simp) ?_
      refine AllReadyH.cons rfl (fun K hK => ?_) AllReadyH.nil
      rw [if_pos (by rfl)]
      refine wp_store_row 32 (.tmp 7) (.tmp 21) rfl _ #[.int .u8 k, .int .i64 a, .int .i64 y, .slice A n q] rfl rfl 32 #[.int .u8 0, .int .i64 0, .int .i64 0, .slice none 0 0] Y7 (by kernel_rfl) rfl (by kernel_rfl) ?_
      have Y8 := BoxOf.set Y7 #[.int .u8 k, .int .i64 a, .int .i64 y, .slice A n q]
      have X8 := BoxOf.other X7 hXY #[.int .u8 k, .int .i64 a, .int .i64 y, .slice A n q]
      have T8 := below_setRow T7 hY #[.int .u8 k, .int .i64 a, .int .i64 y, .slice A n q]
      refine hK.out _ _ ⟨T8, (Aq.next T8).cell⟩ (fun hS' => ?_)
      clear hK K hS hS'
      refine wpAnyH_done (by kernel_rfl) ?_ _
      go_wp2_with fail
      go_meet
      exact ⟨_, _, rfl, rfl, ⟨Ext.trans tq T8, Cq.next T8, Aq.next T8, X8, Y8, by omega, by omega, hXY⟩, Rq.below T8⟩
  case rest =>
    obtain ⟨gX, gY, rfl, rfl, h0, hb⟩ := hcut
    clear hr y2 C0 A0 t0 b1 b2
    have y3 := h0.a.cell
    go_upto_region 6 with (first
      | (at_builtin; refine wpList_append_rd _ rfl (.const (.slice none 0 0)) (.tmp 23) _ rfl wc.heap.size 5 i0 _ 1 1 Try.underlying30 hi hz0 hz1 hz2 rfl (by omega) (.slice none 0 0) 0 [] rfl (World.ownsRow_nil _ _ _ _) A n q (bs.map byteV) rfl (by simpa using hb.1) hb.2 (byteV_one _) (by unfold maxLen; omega) (by omega) (Nat.le_refl _) ?_; intro v1 w3 own1 g1 at1; simp only [Nat.zero_add, List.nil_append] at own1; obtain ⟨A1, c1, rfl, _, ho2⟩ := Bs.of_own own1; have b1 : Below wc.heap.size wc w3 := Below.grown (Below.refl _ _) g1 (Nat.le_refl _) (by simp [Value.ownBlock]); have OW := Lib.hid own1; have bz := b1.size; clear own1 g1 at1 ho2 y3)
      | (at_builtin; refine wpList_append_rd _ rfl (.tmp 24) (.tmp 25) _ rfl wc.heap.size 5 i0 _ 1 1 Try.underlying30 hi hz0 hz1 hz2 rfl (by omega) (.slice A1 n c1) n (bs.map byteV) rfl (own_next OW.out (Ext.alloc (Below.refl _ _) _)) (some ⟨w3.heap.size, 0, none⟩) 1 1 [.int .u8 0] rfl rfl (rd_one _ _ _) (by simp [Value.oneCell']) (by unfold maxLen; omega) (by omega) (by simp; omega) ?_; intro v2 w4 own2 g2 at2; have b3 : Below wc.heap.size wc w4 := Below.grown (Ext.alloc b1 _) g2 (by simp; omega) (fun k hk => own_block OW.out hk); obtain ⟨A2, c2, rfl, _, ho3⟩ := own_rd own2; have h3 := h0.next b3; have xx3 := h3.x.cell; have xf3 := h3.x.free; clear own2 g2 at2 ho3))
    have h4 : ByS w #[.int .u32 (id : Int), .int .i64 m, .int .i64 c, .int .i64 r, .int .i64 l, .int .i64 h] #[.int .u8 k, .int .i64 a, .int .i64 y, .slice A n q] #[.int .u8 k, .int .i64 a, .int .i64 y, .slice A2 (n + 1) c2] #[.int .u8 k, .int .i64 a, .int .i64 y, .slice A n q] gX gY _ := h3.setX 3 (.slice A2 (n + 1) c2)
    generalize w4.setCell ⟨gX, 3, none⟩ (.slice A2 (n + 1) c2) = w5 at h4 ⊢
    clear h3 h0 hb xx3 xf3 b3 b1 OW bz
    have y5 := h4.a.cell
    have z5 := h4.c.cell
    have v5 := h4.x.cell
    have hg0 : decide (0 < (n : Int)) = false := decide_eq_false (by omega)
    have hg1 : ((n : Int) == 0) = true := by simpa using hn0
    go_wp2_with fail
    refine (H1.out _ _ _).mono ?_
    rintro e w6 ⟨rfl, b6⟩
    have h6 := h4.next b6
    clear y5 z5 v5
    have y6 := h6.a.cell
    have t6 := h6.t
    go_wp2
    go_ret
    exact ⟨rfl, t6⟩

set_option maxRecDepth 100000 in
set_option maxHeartbeats 2000000 in
theorem bytes_okn (x : Cfg) (k a y : Int) (bb oo : Nat) (n q : Nat) (bs : List UInt8) (hn : n ≤ 5000) (hnq : n ≤ q) (hn0 : 0 < (n : Int))
    (h0' : ∀ A q W, Calls Try.prog 11 #[x.val, .agg #[.int .u8 k, .int .i64 a, .int .i64 y, .slice A n q]] W fun e w' => e = .returned (.int .i64 0) ∧ Below W.heap.size W w') (h1' : ∀ A q W, Calls Try.prog 11 #[x.val, .agg #[.int .u8 k, .int .i64 a, .int .i64 y, .slice A (n + 1) q]] W fun e w' => e = .returned (.int .i64 3) ∧ Below W.heap.size W w') (h2' : ∀ A q W, Calls Try.prog 11 #[x.val, .agg #[.int .u8 k, .int .i64 a, .int .i64 y, .slice A (n - 1) q]] W fun e w' => e = .returned (.int .i64 3) ∧ Below W.heap.size W w') (w : World) (hr : Bs w (some ⟨bb, oo, none⟩) n bs) :
    Calls Try.prog 4 #[x.val, .agg #[.int .u8 k, .int .i64 a, .int .i64 y, .slice (some ⟨bb, oo, none⟩) n q]] w fun e w' => e = .returned (.bool true) ∧ Below w.heap.size w w' := by
  have H0 := Lib.hid h0'
  have H1 := Lib.hid h1'
  have H2 := Lib.hid h2'
  clear h0' h1' h2'
  obtain ⟨i0, hi, hz0, hz1, hz2⟩ := info_u8
  obtain ⟨id, m, c, r, l, h⟩ := x
  unfold Cfg.val at *
  dsimp only at *
  have hi1 : decide (5000 < (n : Int)) = false := decide_eq_false (by omega)
  have C0 := BoxOf.alloc (BoxOf.new w #[.int .u32 (id : Int), .int .i64 m, .int .i64 c, .int .i64 r, .int .i64 l, .int .i64 h] 24) (.cells #[.int .u8 k, .int .i64 a, .int .i64 y, .slice (some ⟨bb, oo, none⟩) n q] 32)
  have A0 := BoxOf.new' (w.alloc (.cells #[.int .u32 (id : Int), .int .i64 m, .int .i64 c, .int .i64 r, .int .i64 l, .int .i64 h] 24)) (w.heap.size + 1) #[.int .u8 k, .int .i64 a, .int .i64 y, .slice (some ⟨bb, oo, none⟩) n q] 32 (by simp)
  have t0 := Ext.alloc (Ext.alloc (Below.refl w.heap.size w) (.cells #[.int .u32 (id : Int), .int .i64 m, .int .i64 c, .int .i64 r, .int .i64 l, .int .i64 h] 24)) (.cells #[.int .u8 k, .int .i64 a, .int .i64 y, .slice (some ⟨bb, oo, none⟩) n q] 32)
  go_enter Try.func4, Try.ntmps4
  go_wp2_with fail
  refine (spalive_any _).mono ?_
  rintro e w1 ⟨rfl, b1⟩
  have x1 := (C0.next b1).cell
  have y1 := (A0.next b1).cell
  go_wp2_with fail
  refine (H0.out _ _ _).mono ?_
  rintro e w2 ⟨rfl, b2⟩
  clear x1 y1
  have y2 := ((A0.next b1).next b2).cell
  go_upto_region 4 with fail
  go_cut [6, 7] (fun s6 s7 wx => ∃ gX gY, s6 = .pointer (some ⟨gX, 0, none⟩) ∧ s7 = .pointer (some ⟨gY, 0, none⟩) ∧ ByS w #[.int .u32 (id : Int), .int .i64 m, .int .i64 c, .int .i64 r, .int .i64 l, .int .i64 h] #[.int .u8 k, .int .i64 a, .int .i64 y, .slice (some ⟨bb, oo, none⟩) n q] #[.int .u8 k, .int .i64 a, .int .i64 y, .slice (some ⟨bb, oo, none⟩) n q] #[.int .u8 k, .int .i64 a, .int .i64 y, .slice (some ⟨bb, oo, none⟩) n q] gX gY wx ∧ Bs wx (some ⟨bb, oo, none⟩) n bs)
  case first =>
    have b12 := Ext.trans b1 b2
    have Cq := (C0.next b12).drew
    have Aq := (A0.next b12).drew
    have tq := Ext.drew (Ext.trans t0 b12)
    have Rq := ((hr.below t0).below b12).below (Ext.drew (Below.refl w2.heap.size w2))
    have hl := (A0.next b12).lt
    refine wp_region_held_drew (S := fun w' => Below w2.drew.heap.size w2.drew w' ∧ (∀ o, w'.cell? ⟨w.heap.size + 1, o, none⟩ = #[.int .u8 k, .int .i64 a, .int .i64 y, .slice (some ⟨bb, oo, none⟩) n q].toList[o]?)) (by kernel_rfl) ⟨Below.refl _ _, Aq.cell⟩ (fun hS => ?_)
    have T0 : Below w2.drew.heap.size w2.drew w2.drew := Below.refl _ _
    have hl : w.heap.size + 1 < w2.drew.heap.size := hl
    generalize w2.drew = W at *
    refine wpAnyH_take (i := 0) (oi := _) (v := ?_) rfl (by kernel_rfl) (by kernel_rfl) (by kernel_rfl) (fun _ _ _ h => h) (Or.inl ⟨by rfl, ?_⟩) hS ?_
    rotate_left
    · (intro w hSw; (try dsimp only at hSw); go_simp; (try with_reducible rfl))
    rotate_left
    simp only [Act.put, List.getElem_toArray, List.getElem_cons_zero, List.getElem_cons_succ, List.setIfInBounds_toArray, List.set_cons_zero, List.set_cons_succ]
    refine wpAnyH_take (i := 1) (oi := _) (v := ?_) rfl (by kernel_rfl) (by kernel_rfl) (by kernel_rfl) (fun _ _ _ h => h) (Or.inl ⟨by rfl, ?_⟩) hS ?_
    rotate_left
    · (intro w hSw; (try dsimp only at hSw); go_simp; (try with_reducible rfl))
    rotate_left
    simp only [Act.put, List.getElem_toArray, List.getElem_cons_zero, List.getElem_cons_succ, List.setIfInBounds_toArray, List.set_cons_zero, List.set_cons_succ]
    refine wpAnyH_ready (rs := [2, 3]) (by kernel_rfl) (by simp) ?_
    refine AllReadyH.cons rfl (fun K hK => ?_) (AllReadyH.cons rfl (fun K hK => ?_) AllReadyH.nil)
    · rw [if_pos (by rfl)]
      go_simp
      have b := Ext.alloc (Below.refl W.heap.size W) (.cells #[.int .u8 0, .int .i64 0, .int .i64 0, .slice none 0 0] 32)
      have X1 := BoxOf.new W #[.int .u8 0, .int .i64 0, .int .i64 0, .slice none 0 0] 32
      have hX := T0.size
      generalize W.alloc (.cells #[.int .u8 0, .int .i64 0, .int .i64 0, .slice none 0 0] 32) = W1 at b X1 ⊢
      have T1 := Below.trans T0 (b.mono T0.size)
      skip
      refine hK.out _ _ ⟨T1, (Aq.next T1).cell⟩ (fun hS' => ?_)
      clear hK K hS b
      have hS := hS'
      clear hS'
      try simp only [Act.put, List.getElem_toArray, List.getElem_cons_zero, List.getElem_cons_succ, List.setIfInBounds_toArray, List.set_cons_zero, List.set_cons_succ]
      refine wpAnyH_ready (rs := [3]) (by kernel_rfl) (by simp) ?_
      refine AllReadyH.cons rfl (fun K hK => ?_) AllReadyH.nil
      rw [if_pos (by rfl)]
      go_simp
      have b := Ext.alloc (Below.refl W1.heap.size W1) (.cells #[.int .u8 0, .int .i64 0, .int .i64 0, .slice none 0 0] 32)
      have Y2 := BoxOf.new W1 #[.int .u8 0, .int .i64 0, .int .i64 0, .slice none 0 0] 32
      have hY := T1.size
      generalize W1.alloc (.cells #[.int .u8 0, .int .i64 0, .int .i64 0, .slice none 0 0] 32) = W2 at b Y2 ⊢
      have T2 := Below.trans T1 (b.mono T1.size)
      have X2 := X1.next b; have hXY := Nat.ne_of_lt X1.lt
      refine hK.out _ _ ⟨T2, (Aq.next T2).cell⟩ (fun hS' => ?_)
      clear hK K hS b
      have hS := hS'
      clear hS'
      try simp only [Act.put, List.getElem_toArray, List.getElem_cons_zero, List.getElem_cons_succ, List.setIfInBounds_toArray, List.set_cons_zero, List.set_cons_succ]
      refine wpAnyH_ready (rs := [4]) (by kernel_rfl) (by simp) ?_
      refine AllReadyH.cons rfl (fun K hK => ?_) AllReadyH.nil
      rw [if_pos (by rfl)]
      refine wp_store_row 32 (.tmp 6) (.tmp 20) rfl _ #[.int .u8 k, .int .i64 a, .int .i64 y, .slice (some ⟨bb, oo, none⟩) n q] rfl rfl 32 #[.int .u8 0, .int .i64 0, .int .i64 0, .slice none 0 0] X2 (by kernel_rfl) rfl (by kernel_rfl) ?_
      have X7 := BoxOf.set X2 #[.int .u8 k, .int .i64 a, .int .i64 y, .slice (some ⟨bb, oo, none⟩) n q]
      have Y7 := BoxOf.other Y2 hXY.symm #[.int .u8 k, .int .i64 a, .int .i64 y, .slice (some ⟨bb, oo, none⟩) n q]
      have T7 := below_setRow T2 hX #[.int .u8 k, .int .i64 a, .int .i64 y, .slice (some ⟨bb, oo, none⟩) n q]
      refine hK.out _ _ ⟨T7, (Aq.next T7).cell⟩ (fun hS' => ?_)
      clear hK K hS
      have hS := hS'
      clear hS'
      try simp only [Act.put, List.getElem_toArray, List.getElem_cons_zero, List.getElem_cons_succ, List.setIfInBounds_toArray, List.set_cons_zero, List.set_cons_succ]
      refine wpAnyH_ready (rs := [5]) (by kernel_rfl) (by simp) ?_
      refine AllReadyH.cons rfl (fun K hK => ?_) AllReadyH.nil
      rw [if_pos (by rfl)]
      refine wp_store_row 32 (.tmp 7) (.tmp 21) rfl _ #[.int .u8 k, .int .i64 a, .int .i64 y, .slice (some ⟨bb, oo, none⟩) n q] rfl rfl 32 #[.int .u8 0, .int .i64 0, .int .i64 0, .slice none 0 0] Y7 (by kernel_rfl) rfl (by kernel_rfl) ?_
      have Y8 := BoxOf.set Y7 #[.int .u8 k, .int .i64 a, .int .i64 y, .slice (some ⟨bb, oo, none⟩) n q]
      have X8 := BoxOf.other X7 hXY #[.int .u8 k, .int .i64 a, .int .i64 y, .slice (some ⟨bb, oo, none⟩) n q]
      have T8 := below_setRow T7 hY #[.int .u8 k, .int .i64 a, .int .i64 y, .slice (some ⟨bb, oo, none⟩) n q]
      refine hK.out _ _ ⟨T8, (Aq.next T8).cell⟩ (fun hS' => ?_)
      clear hK K hS hS'
      refine wpAnyH_done (by kernel_rfl) ?_ _
      go_wp2_with fail
      go_meet
      exact ⟨_, _, rfl, rfl, ⟨Ext.trans tq T8, Cq.next T8, Aq.next T8, X8, Y8, by omega, by omega, hXY⟩, Rq.below T8⟩
    · rw [if_pos (by rfl)]
      go_simp
      have b := Ext.alloc (Below.refl W.heap.size W) (.cells #[.int .u8 0, .int .i64 0, .int .i64 0, .slice none 0 0] 32)
      have Y1 := BoxOf.new W #[.int .u8 0, .int .i64 0, .int .i64 0, .slice none 0 0] 32
      have hY := T0.size
      generalize W.alloc (.cells #[.int .u8 0, .int .i64 0, .int .i64 0, .slice none 0 0] 32) = W1 at b Y1 ⊢
      have T1 := Below.trans T0 (b.mono T0.size)
      skip
      refine hK.out _ _ ⟨T1, (Aq.next T1).cell⟩ (fun hS' => ?_)
      clear hK K hS b
      have hS := hS'
      clear hS'
      try simp only [Act.put, List.getElem_toArray, List.getElem_cons_zero, List.getElem_cons_succ, List.setIfInBounds_toArray, List.set_cons_zero, List.set_cons_succ]
      refine wpAnyH_ready (rs := [2]) (by kernel_rfl) (by simp) ?_
      refine AllReadyH.cons rfl (fun K hK => ?_) AllReadyH.nil
      rw [if_pos (by rfl)]
      go_simp
      have b := Ext.alloc (Below.refl W1.heap.size W1) (.cells #[.int .u8 0, .int .i64 0, .int .i64 0, .slice none 0 0] 32)
      have X2 := BoxOf.new W1 #[.int .u8 0, .int .i64 0, .int .i64 0, .slice none 0 0] 32
      have hX := T1.size
      generalize W1.alloc (.cells #[.int .u8 0, .int .i64 0, .int .i64 0, .slice none 0 0] 32) = W2 at b X2 ⊢
      have T2 := Below.trans T1 (b.mono T1.size)
      have Y2 := Y1.next b; have hXY := Nat.ne_of_gt Y1.lt
      refine hK.out _ _ ⟨T2, (Aq.next T2).cell⟩ (fun hS' => ?_)
      clear hK K hS b
      have hS := hS'
      clear hS'
      try simp only [Act.put, List.getElem_toArray, List.getElem_cons_zero, List.getElem_cons_succ, List.setIfInBounds_toArray, List.set_cons_zero, List.set_cons_succ]
      refine wpAnyH_ready (rs := [4]) (by kernel_rfl) (by simp) ?_
      refine AllReadyH.cons rfl (fun K hK => ?_) AllReadyH.nil
      rw [if_pos (by rfl)]
      refine wp_store_row 32 (.tmp 6) (.tmp 20) rfl _ #[.int .u8 k, .int .i64 a, .int .i64 y, .slice (some ⟨bb, oo, none⟩) n q] rfl rfl 32 #[.int .u8 0, .int .i64 0, .int .i64 0, .slice none 0 0] X2 (by kernel_rfl) rfl (by kernel_rfl) ?_
      have X7 := BoxOf.set X2 #[.int .u8 k, .int .i64 a, .int .i64 y, .slice (some ⟨bb, oo, none⟩) n q]
      have Y7 := BoxOf.other Y2 hXY.symm #[.int .u8 k, .int .i64 a, .int .i64 y, .slice (some ⟨bb, oo, none⟩) n q]
      have T7 := below_setRow T2 hX #[.int .u8 k, .int .i64 a, .int .i64 y, .slice (some ⟨bb, oo, none⟩) n q]
      refine hK.out _ _ ⟨T7, (Aq.next T7).cell⟩ (fun hS' => ?_)
      clear hK K hS
      have hS := hS'
      clear hS'
      try simp only [Act.put, List.getElem_toArray, List.getElem_cons_zero, List.getElem_cons_succ, List.setIfInBounds_toArray, List.set_cons_zero, List.set_cons_succ]
      refine wpAnyH_ready (rs := [5]) (by kernel_rfl) (by simp) ?_
      refine AllReadyH.cons rfl (fun K hK => ?_) AllReadyH.nil
      rw [if_pos (by rfl)]
      refine wp_store_row 32 (.tmp 7) (.tmp 21) rfl _ #[.int .u8 k, .int .i64 a, .int .i64 y, .slice (some ⟨bb, oo, none⟩) n q] rfl rfl 32 #[.int .u8 0, .int .i64 0, .int .i64 0, .slice none 0 0] Y7 (by kernel_rfl) rfl (by kernel_rfl) ?_
      have Y8 := BoxOf.set Y7 #[.int .u8 k, .int .i64 a, .int .i64 y, .slice (some ⟨bb, oo, none⟩) n q]
      have X8 := BoxOf.other X7 hXY #[.int .u8 k, .int .i64 a, .int .i64 y, .slice (some ⟨bb, oo, none⟩) n q]
      have T8 := below_setRow T7 hY #[.int .u8 k, .int .i64 a, .int .i64 y, .slice (some ⟨bb, oo, none⟩) n q]
      refine hK.out _ _ ⟨T8, (Aq.next T8).cell⟩ (fun hS' => ?_)
      clear hK K hS hS'
      refine wpAnyH_done (by kernel_rfl) ?_ _
      go_wp2_with fail
      go_meet
      exact ⟨_, _, rfl, rfl, ⟨Ext.trans tq T8, Cq.next T8, Aq.next T8, X8, Y8, by omega, by omega, hXY⟩, Rq.below T8⟩
  case rest =>
    obtain ⟨gX, gY, rfl, rfl, h0, hb⟩ := hcut
    clear hr y2 C0 A0 t0 b1 b2
    have y3 := h0.a.cell
    go_upto_region 6 with (first
      | (at_builtin; refine wpList_append_rd _ rfl (.const (.slice none 0 0)) (.tmp 23) _ rfl wc.heap.size 5 i0 _ 1 1 Try.underlying30 hi hz0 hz1 hz2 rfl (by omega) (.slice none 0 0) 0 [] rfl (World.ownsRow_nil _ _ _ _) (some ⟨bb, oo, none⟩) n q (bs.map byteV) rfl (by simpa using hb.1) hb.2 (byteV_one _) (by unfold maxLen; omega) (by omega) (Nat.le_refl _) ?_; intro v1 w3 own1 g1 at1; simp only [Nat.zero_add, List.nil_append] at own1; obtain ⟨A1, c1, rfl, _, ho2⟩ := Bs.of_own own1; have b1 : Below wc.heap.size wc w3 := Below.grown (Below.refl _ _) g1 (Nat.le_refl _) (by simp [Value.ownBlock]); have OW := Lib.hid own1; have bz := b1.size; clear own1 g1 at1 ho2 y3)
      | (at_builtin; refine wpList_append_rd _ rfl (.tmp 24) (.tmp 25) _ rfl wc.heap.size 5 i0 _ 1 1 Try.underlying30 hi hz0 hz1 hz2 rfl (by omega) (.slice A1 n c1) n (bs.map byteV) rfl (own_next OW.out (Ext.alloc (Below.refl _ _) _)) (some ⟨w3.heap.size, 0, none⟩) 1 1 [.int .u8 0] rfl rfl (rd_one _ _ _) (by simp [Value.oneCell']) (by unfold maxLen; omega) (by omega) (by simp; omega) ?_; intro v2 w4 own2 g2 at2; have b3 : Below wc.heap.size wc w4 := Below.grown (Ext.alloc b1 _) g2 (by simp; omega) (fun k hk => own_block OW.out hk); obtain ⟨A2, c2, rfl, _, ho3⟩ := own_rd own2; have h3 := h0.next b3; have xx3 := h3.x.cell; have xf3 := h3.x.free; clear own2 g2 at2 ho3))
    have h4 : ByS w #[.int .u32 (id : Int), .int .i64 m, .int .i64 c, .int .i64 r, .int .i64 l, .int .i64 h] #[.int .u8 k, .int .i64 a, .int .i64 y, .slice (some ⟨bb, oo, none⟩) n q] #[.int .u8 k, .int .i64 a, .int .i64 y, .slice A2 (n + 1) c2] #[.int .u8 k, .int .i64 a, .int .i64 y, .slice (some ⟨bb, oo, none⟩) n q] gX gY _ := h3.setX 3 (.slice A2 (n + 1) c2)
    generalize w4.setCell ⟨gX, 3, none⟩ (.slice A2 (n + 1) c2) = w5 at h4 ⊢
    clear h3 h0 hb xx3 xf3 b3 b1 OW bz
    have y5 := h4.a.cell
    have hg0 : decide (0 < (n : Int)) = true := decide_eq_true (by omega)
    have hg1 : ((n : Int) == 0) = false := beq_eq_false_iff_ne.2 (by omega)
    have yy5 := h4.y.cell
    have yf5 := h4.y.free
    go_upto_region 8 with fail
    clear yy5 yf5 y5
    generalize (if q = 1 then some (⟨bb, oo, none⟩ : Addr) else some ⟨bb, oo + 1, none⟩) = B
    have h5 : ByS w #[.int .u32 (id : Int), .int .i64 m, .int .i64 c, .int .i64 r, .int .i64 l, .int .i64 h] #[.int .u8 k, .int .i64 a, .int .i64 y, .slice (some ⟨bb, oo, none⟩) n q] #[.int .u8 k, .int .i64 a, .int .i64 y, .slice A2 (n + 1) c2] #[.int .u8 k, .int .i64 a, .int .i64 y, .slice B (n - 1) (q - 1)] gX gY _ := h4.setY 3 (.slice B (n - 1) (q - 1))
    generalize w5.setCell ⟨gY, 3, none⟩ (.slice B (n - 1) (q - 1)) = w6 at h5 ⊢
    clear h4
    have z6 := h5.c.cell
    have v6 := h5.x.cell
    go_wp2_with fail
    refine (H1.out _ _ _).mono ?_
    rintro e w7 ⟨rfl, b7⟩
    have h7 := h5.next b7
    clear z6 v6 h5 b7
    have y7 := h7.a.cell
    have z7 := h7.c.cell
    have v7 := h7.y.cell
    go_wp2_with fail
    refine (H2.out _ _ _).mono ?_
    rintro e w8 ⟨rfl, b8⟩
    have t8 := Ext.trans h7.t b8
    clear h7 b8 y7 z7 v7
    go_wp2
    go_ret
    exact ⟨rfl, t8⟩

theorem bytes_no (x : Cfg) (k a y : Int) (A : Option Addr) (n q : Nat) (hn : n ≤ 5000) (E : Int) (hE : (E != 0) = true)
    (h0' : ∀ A q W, Calls Try.prog 11 #[x.val, .agg #[.int .u8 k, .int .i64 a, .int .i64 y, .slice A n q]] W fun e w' => e = .returned (.int .i64 E) ∧ Below W.heap.size W w') (w : World) : Calls Try.prog 4 #[x.val, .agg #[.int .u8 k, .int .i64 a, .int .i64 y, .slice A n q]] w fun e w' => e = .returned (.bool true) ∧ Below w.heap.size w w' := by
  have h1' : True := trivial
  have h2' : True := trivial
  have H0 := Lib.hid h0'
  have H1 := Lib.hid h1'
  have H2 := Lib.hid h2'
  clear h0' h1' h2'
  obtain ⟨i0, hi, hz0, hz1, hz2⟩ := info_u8
  obtain ⟨id, m, c, r, l, h⟩ := x
  unfold Cfg.val at *
  dsimp only at *
  have hi1 : decide (5000 < (n : Int)) = false := decide_eq_false (by omega)
  have C0 := BoxOf.alloc (BoxOf.new w #[.int .u32 (id : Int), .int .i64 m, .int .i64 c, .int .i64 r, .int .i64 l, .int .i64 h] 24) (.cells #[.int .u8 k, .int .i64 a, .int .i64 y, .slice A n q] 32)
  have A0 := BoxOf.new' (w.alloc (.cells #[.int .u32 (id : Int), .int .i64 m, .int .i64 c, .int .i64 r, .int .i64 l, .int .i64 h] 24)) (w.heap.size + 1) #[.int .u8 k, .int .i64 a, .int .i64 y, .slice A n q] 32 (by simp)
  have t0 := Ext.alloc (Ext.alloc (Below.refl w.heap.size w) (.cells #[.int .u32 (id : Int), .int .i64 m, .int .i64 c, .int .i64 r, .int .i64 l, .int .i64 h] 24)) (.cells #[.int .u8 k, .int .i64 a, .int .i64 y, .slice A n q] 32)
  go_enter Try.func4, Try.ntmps4
  go_wp2_with fail
  refine (spalive_any _).mono ?_
  rintro e w1 ⟨rfl, b1⟩
  have x1 := (C0.next b1).cell
  have y1 := (A0.next b1).cell
  go_wp2_with fail
  refine (H0.out _ _ _).mono ?_
  rintro e w2 ⟨rfl, b2⟩
  clear x1 y1
  have t2 := Ext.trans (Ext.trans t0 b1) b2
  clear C0 A0 t0 b1 b2
  go_wp2
  go_ret
  exact ⟨rfl, t2⟩
theorem bytes_long (x : Cfg) (k a y : Int) (A : Option Addr) (n q : Nat) (hn : 5000 < n) (w : World) : Calls Try.prog 4 #[x.val, .agg #[.int .u8 k, .int .i64 a, .int .i64 y, .slice A n q]] w fun e w' => e = .returned (.bool true) ∧ Below w.heap.size w w' := by
  obtain ⟨id, m, c, r, l, h⟩ := x
  unfold Cfg.val at *
  dsimp only at *
  have hi1 : decide (5000 < (n : Int)) = true := decide_eq_true (by omega)
  have A0 := BoxOf.new' (w.alloc (.cells #[.int .u32 (id : Int), .int .i64 m, .int .i64 c, .int .i64 r, .int .i64 l, .int .i64 h] 24)) (w.heap.size + 1) #[.int .u8 k, .int .i64 a, .int .i64 y, .slice A n q] 32 (by simp)
  have t0 := Ext.alloc (Ext.alloc (Below.refl w.heap.size w) (.cells #[.int .u32 (id : Int), .int .i64 m, .int .i64 c, .int .i64 r, .int .i64 l, .int .i64 h] 24)) (.cells #[.int .u8 k, .int .i64 a, .int .i64 y, .slice A n q] 32)
  go_enter Try.func4, Try.ntmps4
  go_wp2_with fail
  refine (spalive_any _).mono ?_
  rintro e w1 ⟨rfl, b1⟩
  have y1 := (A0.next b1).cell
  have t1 := Ext.trans t0 b1
  clear A0 t0 b1
  go_wp2
  go_ret
  exact ⟨rfl, t1⟩

theorem splitBytes_walk (w : World) (cs : List Value) (y : (Ty.st (.prod .u32 (.prod .int (.prod .int (.prod .int (.prod .int (.prod .int .unit))))))).T) (h0 : Reads w (Ty.st (.prod .u32 (.prod .int (.prod .int (.prod .int (.prod .int (.prod .int .unit))))))) y cs) (ds : List Value) (z : (Ty.st (.prod .byte (.prod .int (.prod .int (.prod (.sl .byte) .unit))))).T) (h1 : Reads w (Ty.st (.prod .byte (.prod .int (.prod .int (.prod (.sl .byte) .unit))))) z ds) :
    Calls Try.prog 4 #[.agg cs.toArray, .agg ds.toArray] w fun e w' => e = .returned (.bool true) ∧ Below w.heap.size w w' := by
  obtain ⟨x, hx, _⟩ := cfg_open h0
  obtain ⟨k, a, y, A, bs, q, hv1, _, _, _, hnq, _, r1⟩ := ask_open h1
  rw [hx, hv1]
  generalize bs.length = n at *
  by_cases hn : n ≤ 5000
  · by_cases e1 : askCode x k a y n = 0
    · obtain ⟨hok, hp, hw, _, _, _⟩ := askCode_0 e1
      have c0 : ∀ A q W, Calls Try.prog 11 #[x.val, .agg #[.int .u8 k, .int .i64 a, .int .i64 y, .slice A n q]] W fun e w' => e = .returned (.int .i64 0) ∧ Below W.heap.size W w' := fun A q W => by
        have := scheck_all x k a y A n q W
        rw [e1] at this
        exact this
      have c1 : ∀ A q W, Calls Try.prog 11 #[x.val, .agg #[.int .u8 k, .int .i64 a, .int .i64 y, .slice A (n + 1) q]] W fun e w' => e = .returned (.int .i64 3) ∧ Below W.heap.size W w' := fun A q W => scheck_text x hok k a y A (n + 1) q hp (by omega) W
      by_cases hn0 : n = 0
      · exact bytes_ok0 x k a y A n q bs hn hnq (by omega) c0 c1 trivial w r1
      · have c2 : ∀ A q W, Calls Try.prog 11 #[x.val, .agg #[.int .u8 k, .int .i64 a, .int .i64 y, .slice A (n - 1) q]] W fun e w' => e = .returned (.int .i64 3) ∧ Below W.heap.size W w' := fun A q W => scheck_text x hok k a y A (n - 1) q hp (by omega) W
        obtain ⟨bb, oo, rfl, _, _⟩ := r1.addr (by omega)
        exact bytes_okn x k a y bb oo n q bs hn hnq (by omega) c0 c1 c2 w r1
    · exact bytes_no x k a y A n q hn _ (askCode_ne _ _ _ _ _ e1) (fun A q W => scheck_all x k a y A n q W) w
  · exact bytes_long x k a y A n q (by omega) w
end Go.Proofs.Ytmoaflnggcbhkaa
