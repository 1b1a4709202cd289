/- Layer 8 (split): the requests' answers beside the document's. -/
import Derived.Test.YtmoaflnggcbhkaaSplit7
import Derived.Test.YtmoaflnggcbhkaaSplitLaws2
import Derived.Deep.DeepCutAuto
namespace Go.Proofs.Ytmoaflnggcbhkaa
open Go.RowKit
set_option linter.unusedSimpArgs false
set_option linter.unusedVariables false

theorem bs_own {w : World} {base n : Nat} {e : TypeId} {A : Option Addr} {c : Nat} {bs : List UInt8} (h : w.ownsRow base e 1 (.slice A n c) n (bs.map byteV)) : Bs w A n bs := by
  obtain ⟨A', c', hv, _, hb⟩ := Bs.of_own h
  injection hv with h1 h2 h3
  subst h1
  exact hb

theorem below_name {B : Nat} {w w' : World} (h : Below B w w') : ∃ v : World, v = w' := ⟨_, rfl⟩

structure TwS (w : World) (cc aa dd xx yy : Array Value) (gX gY : Nat) (A1 A2 B1 B2 : Option Addr) (n1 n2 : Nat) (bs1 bs2 : List UInt8) (wx : World) : Prop where
  t : Below w.heap.size w wx
  c : BoxOf wx w.heap.size cc 24
  a : BoxOf wx (w.heap.size + 1) aa 32
  d : BoxOf wx (w.heap.size + 2) dd 32
  x : BoxOf wx gX xx 32
  y : BoxOf wx gY yy 32
  r1 : Bs wx A1 n1 bs1
  r2 : Bs wx A2 n2 bs2
  s1 : Bs wx B1 n1 bs1
  s2 : Bs wx B2 n2 bs2
theorem TwS.next {w : World} {cc aa dd xx yy : Array Value} {gX gY : Nat} {A1 A2 B1 B2 : Option Addr} {n1 n2 : Nat} {bs1 bs2 : List UInt8} {wx w' : World}
    (h : TwS w cc aa dd xx yy gX gY A1 A2 B1 B2 n1 n2 bs1 bs2 wx) (b : Below wx.heap.size wx w') : TwS w cc aa dd xx yy gX gY A1 A2 B1 B2 n1 n2 bs1 bs2 w' :=
  ⟨Ext.trans h.t b, h.c.next b, h.a.next b, h.d.next b, h.x.next b, h.y.next b, h.r1.below b, h.r2.below b, h.s1.below b, h.s2.below b⟩

set_option maxRecDepth 100000 in
set_option maxHeartbeats 4000000 in
theorem tells_ok (x : Cfg) (k1 a1 y1 k2 a2 y2 : Int) (A1 A2 : Option Addr) (n1 q1 n2 q2 : Nat) (bs1 bs2 : List UInt8) (hn1 : n1 ≤ 5000) (hn2 : n2 ≤ 5000) (N : Nat) (hN : N ≤ 8) (E : Int) (T : Bool) (F : Int)
    (h1 : ∀ A q W, Calls Try.prog 14 #[x.val, .agg #[.int .u8 k1, .int .i64 a1, .int .i64 y1, .slice A n1 q]] W fun e w' => ∃ P c, e = .returned (.tuple #[.slice P N c, .int .i64 E]) ∧ Rd w' P (seqI a1 N) ∧ Below W.heap.size W w')
    (h2 : ∀ A q W, Calls Try.prog 17 #[x.val, .agg #[.int .u8 k1, .int .i64 a1, .int .i64 y1, .slice A n1 q]] W fun e w' => ∃ P c, e = .returned (.tuple #[.slice P N c, .int .i64 E]) ∧ Rd w' P (seqI a1 N) ∧ Below W.heap.size W w')
    (h3 : ∀ A q B p W, Calls Try.prog 15 #[x.val, .agg #[.int .u8 k1, .int .i64 a1, .int .i64 y1, .slice A n1 q], .agg #[.int .u8 k2, .int .i64 a2, .int .i64 y2, .slice B n2 p]] W fun e w' => e = .returned (.tuple #[.bool T, .int .i64 F]) ∧ Below W.heap.size W w')
    (h4 : ∀ A q B p W, Calls Try.prog 18 #[x.val, .agg #[.int .u8 k1, .int .i64 a1, .int .i64 y1, .slice A n1 q], .agg #[.int .u8 k2, .int .i64 a2, .int .i64 y2, .slice B n2 p]] W fun e w' => e = .returned (.tuple #[.bool T, .int .i64 F]) ∧ Below W.heap.size W w')
    (h5 : ∀ A q W, Calls Try.prog 11 #[x.val, .agg #[.int .u8 k1, .int .i64 a1, .int .i64 y1, .slice A n1 q]] W fun e w' => e = .returned (.int .i64 E) ∧ Below W.heap.size W w')
    (h6 : ∀ A q W, Calls Try.prog 19 #[x.val, .agg #[.int .u8 k1, .int .i64 a1, .int .i64 y1, .slice A n1 q]] W fun e w' => e = .returned (.int .i64 E) ∧ Below W.heap.size W w')
    (w : World) (r1 : Bs w A1 n1 bs1) (r2 : Bs w A2 n2 bs2) :
    Calls Try.prog 6 #[x.val, .agg #[.int .u8 k1, .int .i64 a1, .int .i64 y1, .slice A1 n1 q1], .agg #[.int .u8 k2, .int .i64 a2, .int .i64 y2, .slice A2 n2 q2]] w fun e w' => e = .returned (.bool true) ∧ Below w.heap.size w w' := by
  have H1 := Lib.hid h1
  have H2 := Lib.hid h2
  have H3 := Lib.hid h3
  have H4 := Lib.hid h4
  have H5 := Lib.hid h5
  have H6 := Lib.hid h6
  clear h1 h2 h3 h4 h5 h6
  obtain ⟨id, m, c, r, l, h⟩ := x
  unfold Cfg.val at *
  dsimp only at *
  go_enter Try.func6, Try.ntmps6
  have hi1 : decide (5000 < (n1 : Int)) = false := decide_eq_false (by omega)
  have hi2 : decide (5000 < (n2 : Int)) = false := decide_eq_false (by omega)
  go_upto_region 3 with fail
  go_cut [7, 8] (fun s7 s8 wx => ∃ gX gY B1 B2 p1 p2, s7 = .pointer (some ⟨gX, 0, none⟩) ∧ s8 = .pointer (some ⟨gY, 0, none⟩) ∧ TwS w #[.int .u32 (id : Int), .int .i64 m, .int .i64 c, .int .i64 r, .int .i64 l, .int .i64 h] #[.int .u8 k1, .int .i64 a1, .int .i64 y1, .slice A1 n1 q1] #[.int .u8 k2, .int .i64 a2, .int .i64 y2, .slice A2 n2 q2] #[.int .u8 k1, .int .i64 a1, .int .i64 y1, .slice B1 n1 p1] #[.int .u8 k2, .int .i64 a2, .int .i64 y2, .slice B2 n2 p2] gX gY A1 A2 B1 B2 n1 n2 bs1 bs2 wx)
  case first =>
    have C0 := BoxOf.alloc (BoxOf.alloc (BoxOf.new w #[.int .u32 (id : Int), .int .i64 m, .int .i64 c, .int .i64 r, .int .i64 l, .int .i64 h] 24) (.cells #[.int .u8 k1, .int .i64 a1, .int .i64 y1, .slice A1 n1 q1] 32)) (.cells #[.int .u8 k2, .int .i64 a2, .int .i64 y2, .slice A2 n2 q2] 32)
    have A0 := BoxOf.alloc (BoxOf.new' (w.alloc (.cells #[.int .u32 (id : Int), .int .i64 m, .int .i64 c, .int .i64 r, .int .i64 l, .int .i64 h] 24)) (w.heap.size + 1) #[.int .u8 k1, .int .i64 a1, .int .i64 y1, .slice A1 n1 q1] 32 (by simp)) (.cells #[.int .u8 k2, .int .i64 a2, .int .i64 y2, .slice A2 n2 q2] 32)
    have D0 := BoxOf.new' ((w.alloc (.cells #[.int .u32 (id : Int), .int .i64 m, .int .i64 c, .int .i64 r, .int .i64 l, .int .i64 h] 24)).alloc (.cells #[.int .u8 k1, .int .i64 a1, .int .i64 y1, .slice A1 n1 q1] 32)) (w.heap.size + 2) #[.int .u8 k2, .int .i64 a2, .int .i64 y2, .slice A2 n2 q2] 32 (by simp)
    have t0 := Ext.alloc (Ext.alloc (Ext.alloc (Below.refl w.heap.size w) (.cells #[.int .u32 (id : Int), .int .i64 m, .int .i64 c, .int .i64 r, .int .i64 l, .int .i64 h] 24)) (.cells #[.int .u8 k1, .int .i64 a1, .int .i64 y1, .slice A1 n1 q1] 32)) (.cells #[.int .u8 k2, .int .i64 a2, .int .i64 y2, .slice A2 n2 q2] 32)
    have x0 := C0.cell
    clear x0
    have r10 := r1.below t0
    have r20 := r2.below t0
    generalize ((w.alloc (.cells #[.int .u32 (id : Int), .int .i64 m, .int .i64 c, .int .i64 r, .int .i64 l, .int .i64 h] 24)).alloc (.cells #[.int .u8 k1, .int .i64 a1, .int .i64 y1, .slice A1 n1 q1] 32)).alloc (.cells #[.int .u8 k2, .int .i64 a2, .int .i64 y2, .slice A2 n2 q2] 32) = W0 at *
    have Cq := C0.drew
    have Aq := A0.drew
    have Dq := D0.drew
    have tq := Ext.drew t0
    have R1 := r10.below (Ext.drew (Below.refl W0.heap.size W0))
    have R2 := r20.below (Ext.drew (Below.refl W0.heap.size W0))
    refine wp_region_held_drew (S := fun w' => Below W0.drew.heap.size W0.drew w' ∧ (∀ o, w'.cell? ⟨w.heap.size + 1, o, none⟩ = #[.int .u8 k1, .int .i64 a1, .int .i64 y1, .slice A1 n1 q1].toList[o]?) ∧ ∀ o, w'.cell? ⟨w.heap.size + 2, o, none⟩ = #[.int .u8 k2, .int .i64 a2, .int .i64 y2, .slice A2 n2 q2].toList[o]?) (by kernel_rfl) ⟨Below.refl _ _, Aq.cell, Dq.cell⟩ (fun hS => ?_)
    clear C0 A0 D0 t0 r1 r2 r10 r20
    have TW : Below W0.drew.heap.size W0.drew W0.drew := Below.refl _ _
    generalize W0.drew = W at *
    refine wpAnyH_take (i := 0) (oi := _) (v := ?_) rfl (by kernel_rfl) (by kernel_rfl) (by kernel_rfl) (fun _ _ _ h => h) (Or.inl ⟨by rfl, ?_⟩) hS ?_
    rotate_left
    · (intro w hSw; (try dsimp only at hSw); go_simp; (try with_reducible rfl))
    rotate_left
    simp only [Act.put, List.getElem_toArray, List.getElem_cons_zero, List.getElem_cons_succ, List.setIfInBounds_toArray, List.set_cons_zero, List.set_cons_succ]
    refine wpAnyH_take (i := 2) (oi := _) (v := ?_) rfl (by kernel_rfl) (by kernel_rfl) (by kernel_rfl) (fun _ _ _ h => h) (Or.inl ⟨by rfl, ?_⟩) hS ?_
    rotate_left
    · (intro w hSw; (try dsimp only at hSw); go_simp; (try with_reducible rfl))
    rotate_left
    simp only [Act.put, List.getElem_toArray, List.getElem_cons_zero, List.getElem_cons_succ, List.setIfInBounds_toArray, List.set_cons_zero, List.set_cons_succ]
    refine wpAnyH_ready (rs := [1, 4, 5]) (by kernel_rfl) (by simp) ?_
    refine AllReadyH.cons rfl (fun K hK => ?_) (AllReadyH.cons rfl (fun K hK => ?_) (AllReadyH.cons rfl (fun K hK => ?_) AllReadyH.nil))
    · rw [if_pos (by rfl)]
      go_simp
      refine (twin_any k1 a1 y1 A1 n1 q1 bs1 hn1 _ (R1.below TW)).mono ?_
      rintro e W1 ⟨B1, p1, rfl, s1W1, b⟩
      have TW1 := Below.trans TW (b.mono TW.size)
      refine hK.out _ _ ⟨TW1, (Aq.next TW1).cell, (Dq.next TW1).cell⟩ (fun hS' => ?_)
      clear hK K hS b
      have hS := hS'
      clear hS'
      try simp only [Act.put, List.getElem_toArray, List.getElem_cons_zero, List.getElem_cons_succ, List.setIfInBounds_toArray, List.set_cons_zero, List.set_cons_succ]
      refine wpAnyH_ready (rs := [3, 4, 5]) (by kernel_rfl) (by simp) ?_
      refine AllReadyH.cons rfl (fun K hK => ?_) (AllReadyH.cons rfl (fun K hK => ?_) (AllReadyH.cons rfl (fun K hK => ?_) AllReadyH.nil))
      · rw [if_pos (by rfl)]
        go_simp
        refine (twin_any k2 a2 y2 A2 n2 q2 bs2 hn2 _ (R2.below TW1)).mono ?_
        rintro e W13 ⟨B2, p2, rfl, s2W13, b⟩
        have TW13 := Below.trans TW1 (b.mono TW1.size)
        have s1W13 := own_next s1W1 b
        refine hK.out _ _ ⟨TW13, (Aq.next TW13).cell, (Dq.next TW13).cell⟩ (fun hS' => ?_)
        clear hK K hS b
        have hS := hS'
        clear hS'
        try simp only [Act.put, List.getElem_toArray, List.getElem_cons_zero, List.getElem_cons_succ, List.setIfInBounds_toArray, List.set_cons_zero, List.set_cons_succ]
        refine wpAnyH_ready (rs := [4, 5]) (by kernel_rfl) (by simp) ?_
        refine AllReadyH.cons rfl (fun K hK => ?_) (AllReadyH.cons rfl (fun K hK => ?_) AllReadyH.nil)
        · rw [if_pos (by rfl)]
          go_simp
          have b := Ext.alloc (Below.refl W13.heap.size W13) (.cells #[.int .u8 0, .int .i64 0, .int .i64 0, .slice none 0 0] 32)
          have XW134 := BoxOf.new W13 #[.int .u8 0, .int .i64 0, .int .i64 0, .slice none 0 0] 32
          have hX := TW13.size
          generalize W13.alloc (.cells #[.int .u8 0, .int .i64 0, .int .i64 0, .slice none 0 0] 32) = W134 at b XW134 ⊢
          have TW134 := Below.trans TW13 (b.mono TW13.size)
          have s1W134 := own_next s1W13 b
          have s2W134 := own_next s2W13 b
          have o1X : _ ≠ some W13.heap.size := fun e => absurd (own_lt s1W13 e) (Nat.lt_irrefl _)
          have o2X : _ ≠ some W13.heap.size := fun e => absurd (own_lt s2W13 e) (Nat.lt_irrefl _)
          refine hK.out _ _ ⟨TW134, (Aq.next TW134).cell, (Dq.next TW134).cell⟩ (fun hS' => ?_)
          clear hK K hS b
          have hS := hS'
          clear hS'
          try simp only [Act.put, List.getElem_toArray, List.getElem_cons_zero, List.getElem_cons_succ, List.setIfInBounds_toArray, List.set_cons_zero, List.set_cons_succ]
          refine wpAnyH_ready (rs := [5]) (by kernel_rfl) (by simp) ?_
          refine AllReadyH.cons rfl (fun K hK => ?_) AllReadyH.nil
          · rw [if_pos (by rfl)]
            go_simp
            have b := Ext.alloc (Below.refl W134.heap.size W134) (.cells #[.int .u8 0, .int .i64 0, .int .i64 0, .slice none 0 0] 32)
            have YW1345 := BoxOf.new W134 #[.int .u8 0, .int .i64 0, .int .i64 0, .slice none 0 0] 32
            have hY := TW134.size
            generalize W134.alloc (.cells #[.int .u8 0, .int .i64 0, .int .i64 0, .slice none 0 0] 32) = W1345 at b YW1345 ⊢
            have TW1345 := Below.trans TW134 (b.mono TW134.size)
            have s1W1345 := own_next s1W134 b
            have s2W1345 := own_next s2W134 b
            have XW1345 := XW134.next b
            have o1Y : _ ≠ some W134.heap.size := fun e => absurd (own_lt s1W134 e) (Nat.lt_irrefl _)
            have o2Y : _ ≠ some W134.heap.size := fun e => absurd (own_lt s2W134 e) (Nat.lt_irrefl _)
            have hXY := Nat.ne_of_lt XW134.lt
            refine hK.out _ _ ⟨TW1345, (Aq.next TW1345).cell, (Dq.next TW1345).cell⟩ (fun hS' => ?_)
            clear hK K hS b
            have hS := hS'
            clear hS'
            try simp only [Act.put, List.getElem_toArray, List.getElem_cons_zero, List.getElem_cons_succ, List.setIfInBounds_toArray, List.set_cons_zero, List.set_cons_succ]
            refine wpAnyH_ready (rs := [6]) (by kernel_rfl) (by simp) ?_
            refine AllReadyH.cons rfl (fun K hK => ?_) AllReadyH.nil
            rw [if_pos (by rfl)]
            refine wp_store_row 32 (.tmp 7) (.tmp 29) rfl _ #[.int .u8 k1, .int .i64 a1, .int .i64 y1, .slice B1 n1 p1] rfl rfl 32 #[.int .u8 0, .int .i64 0, .int .i64 0, .slice none 0 0] XW1345 (by kernel_rfl) rfl (by kernel_rfl) ?_
            have X7 := BoxOf.set XW1345 #[.int .u8 k1, .int .i64 a1, .int .i64 y1, .slice B1 n1 p1]
            have Y7 := BoxOf.other YW1345 hXY.symm #[.int .u8 k1, .int .i64 a1, .int .i64 y1, .slice B1 n1 p1]
            have s17 := own_setRow s1W1345 o1X #[.int .u8 k1, .int .i64 a1, .int .i64 y1, .slice B1 n1 p1]
            have s27 := own_setRow s2W1345 o2X #[.int .u8 k1, .int .i64 a1, .int .i64 y1, .slice B1 n1 p1]
            have T7 := below_setRow TW1345 hX #[.int .u8 k1, .int .i64 a1, .int .i64 y1, .slice B1 n1 p1]
            refine hK.out _ _ ⟨T7, (Aq.next T7).cell, (Dq.next T7).cell⟩ (fun hS' => ?_)
            clear hK K hS
            have hS := hS'
            clear hS'
            try simp only [Act.put, List.getElem_toArray, List.getElem_cons_zero, List.getElem_cons_succ, List.setIfInBounds_toArray, List.set_cons_zero, List.set_cons_succ]
            refine wpAnyH_ready (rs := [7]) (by kernel_rfl) (by simp) ?_
            refine AllReadyH.cons rfl (fun K hK => ?_) AllReadyH.nil
            rw [if_pos (by rfl)]
            refine wp_store_row 32 (.tmp 8) (.tmp 31) rfl _ #[.int .u8 k2, .int .i64 a2, .int .i64 y2, .slice B2 n2 p2] rfl rfl 32 #[.int .u8 0, .int .i64 0, .int .i64 0, .slice none 0 0] Y7 (by kernel_rfl) rfl (by kernel_rfl) ?_
            have Y8 := BoxOf.set Y7 #[.int .u8 k2, .int .i64 a2, .int .i64 y2, .slice B2 n2 p2]
            have X8 := BoxOf.other X7 hXY #[.int .u8 k2, .int .i64 a2, .int .i64 y2, .slice B2 n2 p2]
            have s18 := own_setRow s17 o1Y #[.int .u8 k2, .int .i64 a2, .int .i64 y2, .slice B2 n2 p2]
            have s28 := own_setRow s27 o2Y #[.int .u8 k2, .int .i64 a2, .int .i64 y2, .slice B2 n2 p2]
            have T8 := below_setRow T7 hY #[.int .u8 k2, .int .i64 a2, .int .i64 y2, .slice B2 n2 p2]
            refine hK.out _ _ ⟨T8, (Aq.next T8).cell, (Dq.next T8).cell⟩ (fun hS' => ?_)
            clear hK K hS hS'
            refine wpAnyH_done (by kernel_rfl) ?_ _
            go_wp2_with fail
            go_meet
            exact ⟨_, _, B1, B2, p1, p2, rfl, rfl, Ext.trans tq T8, Cq.next T8, Aq.next T8, Dq.next T8, X8, Y8, R1.below T8, R2.below T8, bs_own s18, bs_own s28⟩
        · rw [if_pos (by rfl)]
          go_simp
          have b := Ext.alloc (Below.refl W13.heap.size W13) (.cells #[.int .u8 0, .int .i64 0, .int .i64 0, .slice none 0 0] 32)
          have YW135 := BoxOf.new W13 #[.int .u8 0, .int .i64 0, .int .i64 0, .slice none 0 0] 32
          have hY := TW13.size
          generalize W13.alloc (.cells #[.int .u8 0, .int .i64 0, .int .i64 0, .slice none 0 0] 32) = W135 at b YW135 ⊢
          have TW135 := Below.trans TW13 (b.mono TW13.size)
          have s1W135 := own_next s1W13 b
          have s2W135 := own_next s2W13 b
          have o1Y : _ ≠ some W13.heap.size := fun e => absurd (own_lt s1W13 e) (Nat.lt_irrefl _)
          have o2Y : _ ≠ some W13.heap.size := fun e => absurd (own_lt s2W13 e) (Nat.lt_irrefl _)
          refine hK.out _ _ ⟨TW135, (Aq.next TW135).cell, (Dq.next TW135).cell⟩ (fun hS' => ?_)
          clear hK K hS b
          have hS := hS'
          clear hS'
          try simp only [Act.put, List.getElem_toArray, List.getElem_cons_zero, List.getElem_cons_succ, List.setIfInBounds_toArray, List.set_cons_zero, List.set_cons_succ]
          refine wpAnyH_ready (rs := [4]) (by kernel_rfl) (by simp) ?_
          refine AllReadyH.cons rfl (fun K hK => ?_) AllReadyH.nil
          · rw [if_pos (by rfl)]
            go_simp
            have b := Ext.alloc (Below.refl W135.heap.size W135) (.cells #[.int .u8 0, .int .i64 0, .int .i64 0, .slice none 0 0] 32)
            have XW1354 := BoxOf.new W135 #[.int .u8 0, .int .i64 0, .int .i64 0, .slice none 0 0] 32
            have hX := TW135.size
            generalize W135.alloc (.cells #[.int .u8 0, .int .i64 0, .int .i64 0, .slice none 0 0] 32) = W1354 at b XW1354 ⊢
            have TW1354 := Below.trans TW135 (b.mono TW135.size)
            have s1W1354 := own_next s1W135 b
            have s2W1354 := own_next s2W135 b
            have YW1354 := YW135.next b
            have o1X : _ ≠ some W135.heap.size := fun e => absurd (own_lt s1W135 e) (Nat.lt_irrefl _)
            have o2X : _ ≠ some W135.heap.size := fun e => absurd (own_lt s2W135 e) (Nat.lt_irrefl _)
            have hXY := Nat.ne_of_gt YW135.lt
            refine hK.out _ _ ⟨TW1354, (Aq.next TW1354).cell, (Dq.next TW1354).cell⟩ (fun hS' => ?_)
            clear hK K hS b
            have hS := hS'
            clear hS'
            try simp only [Act.put, List.getElem_toArray, List.getElem_cons_zero, List.getElem_cons_succ, List.setIfInBounds_toArray, List.set_cons_zero, List.set_cons_succ]
            refine wpAnyH_ready (rs := [6]) (by kernel_rfl) (by simp) ?_
            refine AllReadyH.cons rfl (fun K hK => ?_) AllReadyH.nil
            rw [if_pos (by rfl)]
            refine wp_store_row 32 (.tmp 7) (.tmp 29) rfl _ #[.int .u8 k1, .int .i64 a1, .int .i64 y1, .slice B1 n1 p1] rfl rfl 32 #[.int .u8 0, .int .i64 0, .int .i64 0, .slice none 0 0] XW1354 (by kernel_rfl) rfl (by kernel_rfl) ?_
            have X7 := BoxOf.set XW1354 #[.int .u8 k1, .int .i64 a1, .int .i64 y1, .slice B1 n1 p1]
            have Y7 := BoxOf.other YW1354 hXY.symm #[.int .u8 k1, .int .i64 a1, .int .i64 y1, .slice B1 n1 p1]
            have s17 := own_setRow s1W1354 o1X #[.int .u8 k1, .int .i64 a1, .int .i64 y1, .slice B1 n1 p1]
            have s27 := own_setRow s2W1354 o2X #[.int .u8 k1, .int .i64 a1, .int .i64 y1, .slice B1 n1 p1]
            have T7 := below_setRow TW1354 hX #[.int .u8 k1, .int .i64 a1, .int .i64 y1, .slice B1 n1 p1]
            refine hK.out _ _ ⟨T7, (Aq.next T7).cell, (Dq.next T7).cell⟩ (fun hS' => ?_)
            clear hK K hS
            have hS := hS'
            clear hS'
            try simp only [Act.put, List.getElem_toArray, List.getElem_cons_zero, List.getElem_cons_succ, List.setIfInBounds_toArray, List.set_cons_zero, List.set_cons_succ]
            refine wpAnyH_ready (rs := [7]) (by kernel_rfl) (by simp) ?_
            refine AllReadyH.cons rfl (fun K hK => ?_) AllReadyH.nil
            rw [if_pos (by rfl)]
            refine wp_store_row 32 (.tmp 8) (.tmp 31) rfl _ #[.int .u8 k2, .int .i64 a2, .int .i64 y2, .slice B2 n2 p2] rfl rfl 32 #[.int .u8 0, .int .i64 0, .int .i64 0, .slice none 0 0] Y7 (by kernel_rfl) rfl (by kernel_rfl) ?_
            have Y8 := BoxOf.set Y7 #[.int .u8 k2, .int .i64 a2, .int .i64 y2, .slice B2 n2 p2]
            have X8 := BoxOf.other X7 hXY #[.int .u8 k2, .int .i64 a2, .int .i64 y2, .slice B2 n2 p2]
            have s18 := own_setRow s17 o1Y #[.int .u8 k2, .int .i64 a2, .int .i64 y2, .slice B2 n2 p2]
            have s28 := own_setRow s27 o2Y #[.int .u8 k2, .int .i64 a2, .int .i64 y2, .slice B2 n2 p2]
            have T8 := below_setRow T7 hY #[.int .u8 k2, .int .i64 a2, .int .i64 y2, .slice B2 n2 p2]
            refine hK.out _ _ ⟨T8, (Aq.next T8).cell, (Dq.next T8).cell⟩ (fun hS' => ?_)
            clear hK K hS hS'
            refine wpAnyH_done (by kernel_rfl) ?_ _
            go_wp2_with fail
            go_meet
            exact ⟨_, _, B1, B2, p1, p2, rfl, rfl, Ext.trans tq T8, Cq.next T8, Aq.next T8, Dq.next T8, X8, Y8, R1.below T8, R2.below T8, bs_own s18, bs_own s28⟩
      · rw [if_pos (by rfl)]
        go_simp
        have b := Ext.alloc (Below.refl W1.heap.size W1) (.cells #[.int .u8 0, .int .i64 0, .int .i64 0, .slice none 0 0] 32)
        have XW14 := BoxOf.new W1 #[.int .u8 0, .int .i64 0, .int .i64 0, .slice none 0 0] 32
        have hX := TW1.size
        generalize W1.alloc (.cells #[.int .u8 0, .int .i64 0, .int .i64 0, .slice none 0 0] 32) = W14 at b XW14 ⊢
        have TW14 := Below.trans TW1 (b.mono TW1.size)
        have s1W14 := own_next s1W1 b
        have o1X : _ ≠ some W1.heap.size := fun e => absurd (own_lt s1W1 e) (Nat.lt_irrefl _)
        refine hK.out _ _ ⟨TW14, (Aq.next TW14).cell, (Dq.next TW14).cell⟩ (fun hS' => ?_)
        clear hK K hS b
        have hS := hS'
        clear hS'
        try simp only [Act.put, List.getElem_toArray, List.getElem_cons_zero, List.getElem_cons_succ, List.setIfInBounds_toArray, List.set_cons_zero, List.set_cons_succ]
        refine wpAnyH_ready (rs := [3, 5]) (by kernel_rfl) (by simp) ?_
        refine AllReadyH.cons rfl (fun K hK => ?_) (AllReadyH.cons rfl (fun K hK => ?_) AllReadyH.nil)
        · rw [if_pos (by rfl)]
          go_simp
          refine (twin_any k2 a2 y2 A2 n2 q2 bs2 hn2 _ (R2.below TW14)).mono ?_
          rintro e W143 ⟨B2, p2, rfl, s2W143, b⟩
          have TW143 := Below.trans TW14 (b.mono TW14.size)
          have s1W143 := own_next s1W14 b
          have XW143 := XW14.next b
          have o2X := own_ne s2W143 XW14.lt
          refine hK.out _ _ ⟨TW143, (Aq.next TW143).cell, (Dq.next TW143).cell⟩ (fun hS' => ?_)
          clear hK K hS b
          have hS := hS'
          clear hS'
          try simp only [Act.put, List.getElem_toArray, List.getElem_cons_zero, List.getElem_cons_succ, List.setIfInBounds_toArray, List.set_cons_zero, List.set_cons_succ]
          refine wpAnyH_ready (rs := [5]) (by kernel_rfl) (by simp) ?_
          refine AllReadyH.cons rfl (fun K hK => ?_) AllReadyH.nil
          · rw [if_pos (by rfl)]
            go_simp
            have b := Ext.alloc (Below.refl W143.heap.size W143) (.cells #[.int .u8 0, .int .i64 0, .int .i64 0, .slice none 0 0] 32)
            have YW1435 := BoxOf.new W143 #[.int .u8 0, .int .i64 0, .int .i64 0, .slice none 0 0] 32
            have hY := TW143.size
            generalize W143.alloc (.cells #[.int .u8 0, .int .i64 0, .int .i64 0, .slice none 0 0] 32) = W1435 at b YW1435 ⊢
            have TW1435 := Below.trans TW143 (b.mono TW143.size)
            have s1W1435 := own_next s1W143 b
            have XW1435 := XW143.next b
            have s2W1435 := own_next s2W143 b
            have o1Y : _ ≠ some W143.heap.size := fun e => absurd (own_lt s1W143 e) (Nat.lt_irrefl _)
            have hXY := Nat.ne_of_lt XW143.lt
            have o2Y : _ ≠ some W143.heap.size := fun e => absurd (own_lt s2W143 e) (Nat.lt_irrefl _)
            refine hK.out _ _ ⟨TW1435, (Aq.next TW1435).cell, (Dq.next TW1435).cell⟩ (fun hS' => ?_)
            clear hK K hS b
            have hS := hS'
            clear hS'
            try simp only [Act.put, List.getElem_toArray, List.getElem_cons_zero, List.getElem_cons_succ, List.setIfInBounds_toArray, List.set_cons_zero, List.set_cons_succ]
            refine wpAnyH_ready (rs := [6]) (by kernel_rfl) (by simp) ?_
            refine AllReadyH.cons rfl (fun K hK => ?_) AllReadyH.nil
            rw [if_pos (by rfl)]
            refine wp_store_row 32 (.tmp 7) (.tmp 29) rfl _ #[.int .u8 k1, .int .i64 a1, .int .i64 y1, .slice B1 n1 p1] rfl rfl 32 #[.int .u8 0, .int .i64 0, .int .i64 0, .slice none 0 0] XW1435 (by kernel_rfl) rfl (by kernel_rfl) ?_
            have X7 := BoxOf.set XW1435 #[.int .u8 k1, .int .i64 a1, .int .i64 y1, .slice B1 n1 p1]
            have Y7 := BoxOf.other YW1435 hXY.symm #[.int .u8 k1, .int .i64 a1, .int .i64 y1, .slice B1 n1 p1]
            have s17 := own_setRow s1W1435 o1X #[.int .u8 k1, .int .i64 a1, .int .i64 y1, .slice B1 n1 p1]
            have s27 := own_setRow s2W1435 o2X #[.int .u8 k1, .int .i64 a1, .int .i64 y1, .slice B1 n1 p1]
            have T7 := below_setRow TW1435 hX #[.int .u8 k1, .int .i64 a1, .int .i64 y1, .slice B1 n1 p1]
            refine hK.out _ _ ⟨T7, (Aq.next T7).cell, (Dq.next T7).cell⟩ (fun hS' => ?_)
            clear hK K hS
            have hS := hS'
            clear hS'
            try simp only [Act.put, List.getElem_toArray, List.getElem_cons_zero, List.getElem_cons_succ, List.setIfInBounds_toArray, List.set_cons_zero, List.set_cons_succ]
            refine wpAnyH_ready (rs := [7]) (by kernel_rfl) (by simp) ?_
            refine AllReadyH.cons rfl (fun K hK => ?_) AllReadyH.nil
            rw [if_pos (by rfl)]
            refine wp_store_row 32 (.tmp 8) (.tmp 31) rfl _ #[.int .u8 k2, .int .i64 a2, .int .i64 y2, .slice B2 n2 p2] rfl rfl 32 #[.int .u8 0, .int .i64 0, .int .i64 0, .slice none 0 0] Y7 (by kernel_rfl) rfl (by kernel_rfl) ?_
            have Y8 := BoxOf.set Y7 #[.int .u8 k2, .int .i64 a2, .int .i64 y2, .slice B2 n2 p2]
            have X8 := BoxOf.other X7 hXY #[.int .u8 k2, .int .i64 a2, .int .i64 y2, .slice B2 n2 p2]
            have s18 := own_setRow s17 o1Y #[.int .u8 k2, .int .i64 a2, .int .i64 y2, .slice B2 n2 p2]
            have s28 := own_setRow s27 o2Y #[.int .u8 k2, .int .i64 a2, .int .i64 y2, .slice B2 n2 p2]
            have T8 := below_setRow T7 hY #[.int .u8 k2, .int .i64 a2, .int .i64 y2, .slice B2 n2 p2]
            refine hK.out _ _ ⟨T8, (Aq.next T8).cell, (Dq.next T8).cell⟩ (fun hS' => ?_)
            clear hK K hS hS'
            refine wpAnyH_done (by kernel_rfl) ?_ _
            go_wp2_with fail
            go_meet
            exact ⟨_, _, B1, B2, p1, p2, rfl, rfl, Ext.trans tq T8, Cq.next T8, Aq.next T8, Dq.next T8, X8, Y8, R1.below T8, R2.below T8, bs_own s18, bs_own s28⟩
        · rw [if_pos (by rfl)]
          go_simp
          have b := Ext.alloc (Below.refl W14.heap.size W14) (.cells #[.int .u8 0, .int .i64 0, .int .i64 0, .slice none 0 0] 32)
          have YW145 := BoxOf.new W14 #[.int .u8 0, .int .i64 0, .int .i64 0, .slice none 0 0] 32
          have hY := TW14.size
          generalize W14.alloc (.cells #[.int .u8 0, .int .i64 0, .int .i64 0, .slice none 0 0] 32) = W145 at b YW145 ⊢
          have TW145 := Below.trans TW14 (b.mono TW14.size)
          have s1W145 := own_next s1W14 b
          have XW145 := XW14.next b
          have o1Y : _ ≠ some W14.heap.size := fun e => absurd (own_lt s1W14 e) (Nat.lt_irrefl _)
          have hXY := Nat.ne_of_lt XW14.lt
          refine hK.out _ _ ⟨TW145, (Aq.next TW145).cell, (Dq.next TW145).cell⟩ (fun hS' => ?_)
          clear hK K hS b
          have hS := hS'
          clear hS'
          try simp only [Act.put, List.getElem_toArray, List.getElem_cons_zero, List.getElem_cons_succ, List.setIfInBounds_toArray, List.set_cons_zero, List.set_cons_succ]
          refine wpAnyH_ready (rs := [3]) (by kernel_rfl) (by simp) ?_
          refine AllReadyH.cons rfl (fun K hK => ?_) AllReadyH.nil
          · rw [if_pos (by rfl)]
            go_simp
            refine (twin_any k2 a2 y2 A2 n2 q2 bs2 hn2 _ (R2.below TW145)).mono ?_
            rintro e W1453 ⟨B2, p2, rfl, s2W1453, b⟩
            have TW1453 := Below.trans TW145 (b.mono TW145.size)
            have s1W1453 := own_next s1W145 b
            have XW1453 := XW145.next b
            have YW1453 := YW145.next b
            have o2X := own_ne s2W1453 XW145.lt
            have o2Y := own_ne s2W1453 YW145.lt
            refine hK.out _ _ ⟨TW1453, (Aq.next TW1453).cell, (Dq.next TW1453).cell⟩ (fun hS' => ?_)
            clear hK K hS b
            have hS := hS'
            clear hS'
            try simp only [Act.put, List.getElem_toArray, List.getElem_cons_zero, List.getElem_cons_succ, List.setIfInBounds_toArray, List.set_cons_zero, List.set_cons_succ]
            refine wpAnyH_ready (rs := [6]) (by kernel_rfl) (by simp) ?_
            refine AllReadyH.cons rfl (fun K hK => ?_) AllReadyH.nil
            rw [if_pos (by rfl)]
            refine wp_store_row 32 (.tmp 7) (.tmp 29) rfl _ #[.int .u8 k1, .int .i64 a1, .int .i64 y1, .slice B1 n1 p1] rfl rfl 32 #[.int .u8 0, .int .i64 0, .int .i64 0, .slice none 0 0] XW1453 (by kernel_rfl) rfl (by kernel_rfl) ?_
            have X7 := BoxOf.set XW1453 #[.int .u8 k1, .int .i64 a1, .int .i64 y1, .slice B1 n1 p1]
            have Y7 := BoxOf.other YW1453 hXY.symm #[.int .u8 k1, .int .i64 a1, .int .i64 y1, .slice B1 n1 p1]
            have s17 := own_setRow s1W1453 o1X #[.int .u8 k1, .int .i64 a1, .int .i64 y1, .slice B1 n1 p1]
            have s27 := own_setRow s2W1453 o2X #[.int .u8 k1, .int .i64 a1, .int .i64 y1, .slice B1 n1 p1]
            have T7 := below_setRow TW1453 hX #[.int .u8 k1, .int .i64 a1, .int .i64 y1, .slice B1 n1 p1]
            refine hK.out _ _ ⟨T7, (Aq.next T7).cell, (Dq.next T7).cell⟩ (fun hS' => ?_)
            clear hK K hS
            have hS := hS'
            clear hS'
            try simp only [Act.put, List.getElem_toArray, List.getElem_cons_zero, List.getElem_cons_succ, List.setIfInBounds_toArray, List.set_cons_zero, List.set_cons_succ]
            refine wpAnyH_ready (rs := [7]) (by kernel_rfl) (by simp) ?_
            refine AllReadyH.cons rfl (fun K hK => ?_) AllReadyH.nil
            rw [if_pos (by rfl)]
            refine wp_store_row 32 (.tmp 8) (.tmp 31) rfl _ #[.int .u8 k2, .int .i64 a2, .int .i64 y2, .slice B2 n2 p2] rfl rfl 32 #[.int .u8 0, .int .i64 0, .int .i64 0, .slice none 0 0] Y7 (by kernel_rfl) rfl (by kernel_rfl) ?_
            have Y8 := BoxOf.set Y7 #[.int .u8 k2, .int .i64 a2, .int .i64 y2, .slice B2 n2 p2]
            have X8 := BoxOf.other X7 hXY #[.int .u8 k2, .int .i64 a2, .int .i64 y2, .slice B2 n2 p2]
            have s18 := own_setRow s17 o1Y #[.int .u8 k2, .int .i64 a2, .int .i64 y2, .slice B2 n2 p2]
            have s28 := own_setRow s27 o2Y #[.int .u8 k2, .int .i64 a2, .int .i64 y2, .slice B2 n2 p2]
            have T8 := below_setRow T7 hY #[.int .u8 k2, .int .i64 a2, .int .i64 y2, .slice B2 n2 p2]
            refine hK.out _ _ ⟨T8, (Aq.next T8).cell, (Dq.next T8).cell⟩ (fun hS' => ?_)
            clear hK K hS hS'
            refine wpAnyH_done (by kernel_rfl) ?_ _
            go_wp2_with fail
            go_meet
            exact ⟨_, _, B1, B2, p1, p2, rfl, rfl, Ext.trans tq T8, Cq.next T8, Aq.next T8, Dq.next T8, X8, Y8, R1.below T8, R2.below T8, bs_own s18, bs_own s28⟩
      · rw [if_pos (by rfl)]
        go_simp
        have b := Ext.alloc (Below.refl W1.heap.size W1) (.cells #[.int .u8 0, .int .i64 0, .int .i64 0, .slice none 0 0] 32)
        have YW15 := BoxOf.new W1 #[.int .u8 0, .int .i64 0, .int .i64 0, .slice none 0 0] 32
        have hY := TW1.size
        generalize W1.alloc (.cells #[.int .u8 0, .int .i64 0, .int .i64 0, .slice none 0 0] 32) = W15 at b YW15 ⊢
        have TW15 := Below.trans TW1 (b.mono TW1.size)
        have s1W15 := own_next s1W1 b
        have o1Y : _ ≠ some W1.heap.size := fun e => absurd (own_lt s1W1 e) (Nat.lt_irrefl _)
        refine hK.out _ _ ⟨TW15, (Aq.next TW15).cell, (Dq.next TW15).cell⟩ (fun hS' => ?_)
        clear hK K hS b
        have hS := hS'
        clear hS'
        try simp only [Act.put, List.getElem_toArray, List.getElem_cons_zero, List.getElem_cons_succ, List.setIfInBounds_toArray, List.set_cons_zero, List.set_cons_succ]
        refine wpAnyH_ready (rs := [3, 4]) (by kernel_rfl) (by simp) ?_
        refine AllReadyH.cons rfl (fun K hK => ?_) (AllReadyH.cons rfl (fun K hK => ?_) AllReadyH.nil)
        · rw [if_pos (by rfl)]
          go_simp
          refine (twin_any k2 a2 y2 A2 n2 q2 bs2 hn2 _ (R2.below TW15)).mono ?_
          rintro e W153 ⟨B2, p2, rfl, s2W153, b⟩
          have TW153 := Below.trans TW15 (b.mono TW15.size)
          have s1W153 := own_next s1W15 b
          have YW153 := YW15.next b
          have o2Y := own_ne s2W153 YW15.lt
          refine hK.out _ _ ⟨TW153, (Aq.next TW153).cell, (Dq.next TW153).cell⟩ (fun hS' => ?_)
          clear hK K hS b
          have hS := hS'
          clear hS'
          try simp only [Act.put, List.getElem_toArray, List.getElem_cons_zero, List.getElem_cons_succ, List.setIfInBounds_toArray, List.set_cons_zero, List.set_cons_succ]
          refine wpAnyH_ready (rs := [4]) (by kernel_rfl) (by simp) ?_
          refine AllReadyH.cons rfl (fun K hK => ?_) AllReadyH.nil
          · rw [if_pos (by rfl)]
            go_simp
            have b := Ext.alloc (Below.refl W153.heap.size W153) (.cells #[.int .u8 0, .int .i64 0, .int .i64 0, .slice none 0 0] 32)
            have XW1534 := BoxOf.new W153 #[.int .u8 0, .int .i64 0, .int .i64 0, .slice none 0 0] 32
            have hX := TW153.size
            generalize W153.alloc (.cells #[.int .u8 0, .int .i64 0, .int .i64 0, .slice none 0 0] 32) = W1534 at b XW1534 ⊢
            have TW1534 := Below.trans TW153 (b.mono TW153.size)
            have s1W1534 := own_next s1W153 b
            have YW1534 := YW153.next b
            have s2W1534 := own_next s2W153 b
            have o1X : _ ≠ some W153.heap.size := fun e => absurd (own_lt s1W153 e) (Nat.lt_irrefl _)
            have hXY := Nat.ne_of_gt YW153.lt
            have o2X : _ ≠ some W153.heap.size := fun e => absurd (own_lt s2W153 e) (Nat.lt_irrefl _)
            refine hK.out _ _ ⟨TW1534, (Aq.next TW1534).cell, (Dq.next TW1534).cell⟩ (fun hS' => ?_)
            clear hK K hS b
            have hS := hS'
            clear hS'
            try simp only [Act.put, List.getElem_toArray, List.getElem_cons_zero, List.getElem_cons_succ, List.setIfInBounds_toArray, List.set_cons_zero, List.set_cons_succ]
            refine wpAnyH_ready (rs := [6]) (by kernel_rfl) (by simp) ?_
            refine AllReadyH.cons rfl (fun K hK => ?_) AllReadyH.nil
            rw [if_pos (by rfl)]
            refine wp_store_row 32 (.tmp 7) (.tmp 29) rfl _ #[.int .u8 k1, .int .i64 a1, .int .i64 y1, .slice B1 n1 p1] rfl rfl 32 #[.int .u8 0, .int .i64 0, .int .i64 0, .slice none 0 0] XW1534 (by kernel_rfl) rfl (by kernel_rfl) ?_
            have X7 := BoxOf.set XW1534 #[.int .u8 k1, .int .i64 a1, .int .i64 y1, .slice B1 n1 p1]
            have Y7 := BoxOf.other YW1534 hXY.symm #[.int .u8 k1, .int .i64 a1, .int .i64 y1, .slice B1 n1 p1]
            have s17 := own_setRow s1W1534 o1X #[.int .u8 k1, .int .i64 a1, .int .i64 y1, .slice B1 n1 p1]
            have s27 := own_setRow s2W1534 o2X #[.int .u8 k1, .int .i64 a1, .int .i64 y1, .slice B1 n1 p1]
            have T7 := below_setRow TW1534 hX #[.int .u8 k1, .int .i64 a1, .int .i64 y1, .slice B1 n1 p1]
            refine hK.out _ _ ⟨T7, (Aq.next T7).cell, (Dq.next T7).cell⟩ (fun hS' => ?_)
            clear hK K hS
            have hS := hS'
            clear hS'
            try simp only [Act.put, List.getElem_toArray, List.getElem_cons_zero, List.getElem_cons_succ, List.setIfInBounds_toArray, List.set_cons_zero, List.set_cons_succ]
            refine wpAnyH_ready (rs := [7]) (by kernel_rfl) (by simp) ?_
            refine AllReadyH.cons rfl (fun K hK => ?_) AllReadyH.nil
            rw [if_pos (by rfl)]
            refine wp_store_row 32 (.tmp 8) (.tmp 31) rfl _ #[.int .u8 k2, .int .i64 a2, .int .i64 y2, .slice B2 n2 p2] rfl rfl 32 #[.int .u8 0, .int .i64 0, .int .i64 0, .slice none 0 0] Y7 (by kernel_rfl) rfl (by kernel_rfl) ?_
            have Y8 := BoxOf.set Y7 #[.int .u8 k2, .int .i64 a2, .int .i64 y2, .slice B2 n2 p2]
            have X8 := BoxOf.other X7 hXY #[.int .u8 k2, .int .i64 a2, .int .i64 y2, .slice B2 n2 p2]
            have s18 := own_setRow s17 o1Y #[.int .u8 k2, .int .i64 a2, .int .i64 y2, .slice B2 n2 p2]
            have s28 := own_setRow s27 o2Y #[.int .u8 k2, .int .i64 a2, .int .i64 y2, .slice B2 n2 p2]
            have T8 := below_setRow T7 hY #[.int .u8 k2, .int .i64 a2, .int .i64 y2, .slice B2 n2 p2]
            refine hK.out _ _ ⟨T8, (Aq.next T8).cell, (Dq.next T8).cell⟩ (fun hS' => ?_)
            clear hK K hS hS'
            refine wpAnyH_done (by kernel_rfl) ?_ _
            go_wp2_with fail
            go_meet
            exact ⟨_, _, B1, B2, p1, p2, rfl, rfl, Ext.trans tq T8, Cq.next T8, Aq.next T8, Dq.next T8, X8, Y8, R1.below T8, R2.below T8, bs_own s18, bs_own s28⟩
        · rw [if_pos (by rfl)]
          go_simp
          have b := Ext.alloc (Below.refl W15.heap.size W15) (.cells #[.int .u8 0, .int .i64 0, .int .i64 0, .slice none 0 0] 32)
          have XW154 := BoxOf.new W15 #[.int .u8 0, .int .i64 0, .int .i64 0, .slice none 0 0] 32
          have hX := TW15.size
          generalize W15.alloc (.cells #[.int .u8 0, .int .i64 0, .int .i64 0, .slice none 0 0] 32) = W154 at b XW154 ⊢
          have TW154 := Below.trans TW15 (b.mono TW15.size)
          have s1W154 := own_next s1W15 b
          have YW154 := YW15.next b
          have o1X : _ ≠ some W15.heap.size := fun e => absurd (own_lt s1W15 e) (Nat.lt_irrefl _)
          have hXY := Nat.ne_of_gt YW15.lt
          refine hK.out _ _ ⟨TW154, (Aq.next TW154).cell, (Dq.next TW154).cell⟩ (fun hS' => ?_)
          clear hK K hS b
          have hS := hS'
          clear hS'
          try simp only [Act.put, List.getElem_toArray, List.getElem_cons_zero, List.getElem_cons_succ, List.setIfInBounds_toArray, List.set_cons_zero, List.set_cons_succ]
          refine wpAnyH_ready (rs := [3]) (by kernel_rfl) (by simp) ?_
          refine AllReadyH.cons rfl (fun K hK => ?_) AllReadyH.nil
          · rw [if_pos (by rfl)]
            go_simp
            refine (twin_any k2 a2 y2 A2 n2 q2 bs2 hn2 _ (R2.below TW154)).mono ?_
            rintro e W1543 ⟨B2, p2, rfl, s2W1543, b⟩
            have TW1543 := Below.trans TW154 (b.mono TW154.size)
            have s1W1543 := own_next s1W154 b
            have YW1543 := YW154.next b
            have XW1543 := XW154.next b
            have o2Y := own_ne s2W1543 YW154.lt
            have o2X := own_ne s2W1543 XW154.lt
            refine hK.out _ _ ⟨TW1543, (Aq.next TW1543).cell, (Dq.next TW1543).cell⟩ (fun hS' => ?_)
            clear hK K hS b
            have hS := hS'
            clear hS'
            try simp only [Act.put, List.getElem_toArray, List.getElem_cons_zero, List.getElem_cons_succ, List.setIfInBounds_toArray, List.set_cons_zero, List.set_cons_succ]
            refine wpAnyH_ready (rs := [6]) (by kernel_rfl) (by simp) ?_
            refine AllReadyH.cons rfl (fun K hK => ?_) AllReadyH.nil
            rw [if_pos (by rfl)]
            refine wp_store_row 32 (.tmp 7) (.tmp 29) rfl _ #[.int .u8 k1, .int .i64 a1, .int .i64 y1, .slice B1 n1 p1] rfl rfl 32 #[.int .u8 0, .int .i64 0, .int .i64 0, .slice none 0 0] XW1543 (by kernel_rfl) rfl (by kernel_rfl) ?_
            have X7 := BoxOf.set XW1543 #[.int .u8 k1, .int .i64 a1, .int .i64 y1, .slice B1 n1 p1]
            have Y7 := BoxOf.other YW1543 hXY.symm #[.int .u8 k1, .int .i64 a1, .int .i64 y1, .slice B1 n1 p1]
            have s17 := own_setRow s1W1543 o1X #[.int .u8 k1, .int .i64 a1, .int .i64 y1, .slice B1 n1 p1]
            have s27 := own_setRow s2W1543 o2X #[.int .u8 k1, .int .i64 a1, .int .i64 y1, .slice B1 n1 p1]
            have T7 := below_setRow TW1543 hX #[.int .u8 k1, .int .i64 a1, .int .i64 y1, .slice B1 n1 p1]
            refine hK.out _ _ ⟨T7, (Aq.next T7).cell, (Dq.next T7).cell⟩ (fun hS' => ?_)
            clear hK K hS
            have hS := hS'
            clear hS'
            try simp only [Act.put, List.getElem_toArray, List.getElem_cons_zero, List.getElem_cons_succ, List.setIfInBounds_toArray, List.set_cons_zero, List.set_cons_succ]
            refine wpAnyH_ready (rs := [7]) (by kernel_rfl) (by simp) ?_
            refine AllReadyH.cons rfl (fun K hK => ?_) AllReadyH.nil
            rw [if_pos (by rfl)]
            refine wp_store_row 32 (.tmp 8) (.tmp 31) rfl _ #[.int .u8 k2, .int .i64 a2, .int .i64 y2, .slice B2 n2 p2] rfl rfl 32 #[.int .u8 0, .int .i64 0, .int .i64 0, .slice none 0 0] Y7 (by kernel_rfl) rfl (by kernel_rfl) ?_
            have Y8 := BoxOf.set Y7 #[.int .u8 k2, .int .i64 a2, .int .i64 y2, .slice B2 n2 p2]
            have X8 := BoxOf.other X7 hXY #[.int .u8 k2, .int .i64 a2, .int .i64 y2, .slice B2 n2 p2]
            have s18 := own_setRow s17 o1Y #[.int .u8 k2, .int .i64 a2, .int .i64 y2, .slice B2 n2 p2]
            have s28 := own_setRow s27 o2Y #[.int .u8 k2, .int .i64 a2, .int .i64 y2, .slice B2 n2 p2]
            have T8 := below_setRow T7 hY #[.int .u8 k2, .int .i64 a2, .int .i64 y2, .slice B2 n2 p2]
            refine hK.out _ _ ⟨T8, (Aq.next T8).cell, (Dq.next T8).cell⟩ (fun hS' => ?_)
            clear hK K hS hS'
            refine wpAnyH_done (by kernel_rfl) ?_ _
            go_wp2_with fail
            go_meet
            exact ⟨_, _, B1, B2, p1, p2, rfl, rfl, Ext.trans tq T8, Cq.next T8, Aq.next T8, Dq.next T8, X8, Y8, R1.below T8, R2.below T8, bs_own s18, bs_own s28⟩
    · rw [if_pos (by rfl)]
      go_simp
      have b := Ext.alloc (Below.refl W.heap.size W) (.cells #[.int .u8 0, .int .i64 0, .int .i64 0, .slice none 0 0] 32)
      have XW4 := BoxOf.new W #[.int .u8 0, .int .i64 0, .int .i64 0, .slice none 0 0] 32
      have hX := TW.size
      generalize W.alloc (.cells #[.int .u8 0, .int .i64 0, .int .i64 0, .slice none 0 0] 32) = W4 at b XW4 ⊢
      have TW4 := Below.trans TW (b.mono TW.size)
      refine hK.out _ _ ⟨TW4, (Aq.next TW4).cell, (Dq.next TW4).cell⟩ (fun hS' => ?_)
      clear hK K hS b
      have hS := hS'
      clear hS'
      try simp only [Act.put, List.getElem_toArray, List.getElem_cons_zero, List.getElem_cons_succ, List.setIfInBounds_toArray, List.set_cons_zero, List.set_cons_succ]
      refine wpAnyH_ready (rs := [1, 5]) (by kernel_rfl) (by simp) ?_
      refine AllReadyH.cons rfl (fun K hK => ?_) (AllReadyH.cons rfl (fun K hK => ?_) AllReadyH.nil)
      · rw [if_pos (by rfl)]
        go_simp
        refine (twin_any k1 a1 y1 A1 n1 q1 bs1 hn1 _ (R1.below TW4)).mono ?_
        rintro e W41 ⟨B1, p1, rfl, s1W41, b⟩
        have TW41 := Below.trans TW4 (b.mono TW4.size)
        have XW41 := XW4.next b
        have o1X := own_ne s1W41 XW4.lt
        refine hK.out _ _ ⟨TW41, (Aq.next TW41).cell, (Dq.next TW41).cell⟩ (fun hS' => ?_)
        clear hK K hS b
        have hS := hS'
        clear hS'
        try simp only [Act.put, List.getElem_toArray, List.getElem_cons_zero, List.getElem_cons_succ, List.setIfInBounds_toArray, List.set_cons_zero, List.set_cons_succ]
        refine wpAnyH_ready (rs := [3, 5]) (by kernel_rfl) (by simp) ?_
        refine AllReadyH.cons rfl (fun K hK => ?_) (AllReadyH.cons rfl (fun K hK => ?_) AllReadyH.nil)
        · rw [if_pos (by rfl)]
          go_simp
          refine (twin_any k2 a2 y2 A2 n2 q2 bs2 hn2 _ (R2.below TW41)).mono ?_
          rintro e W413 ⟨B2, p2, rfl, s2W413, b⟩
          have TW413 := Below.trans TW41 (b.mono TW41.size)
          have XW413 := XW41.next b
          have s1W413 := own_next s1W41 b
          have o2X := own_ne s2W413 XW41.lt
          refine hK.out _ _ ⟨TW413, (Aq.next TW413).cell, (Dq.next TW413).cell⟩ (fun hS' => ?_)
          clear hK K hS b
          have hS := hS'
          clear hS'
          try simp only [Act.put, List.getElem_toArray, List.getElem_cons_zero, List.getElem_cons_succ, List.setIfInBounds_toArray, List.set_cons_zero, List.set_cons_succ]
          refine wpAnyH_ready (rs := [5]) (by kernel_rfl) (by simp) ?_
          refine AllReadyH.cons rfl (fun K hK => ?_) AllReadyH.nil
          · rw [if_pos (by rfl)]
            go_simp
            have b := Ext.alloc (Below.refl W413.heap.size W413) (.cells #[.int .u8 0, .int .i64 0, .int .i64 0, .slice none 0 0] 32)
            have YW4135 := BoxOf.new W413 #[.int .u8 0, .int .i64 0, .int .i64 0, .slice none 0 0] 32
            have hY := TW413.size
            generalize W413.alloc (.cells #[.int .u8 0, .int .i64 0, .int .i64 0, .slice none 0 0] 32) = W4135 at b YW4135 ⊢
            have TW4135 := Below.trans TW413 (b.mono TW413.size)
            have XW4135 := XW413.next b
            have s1W4135 := own_next s1W413 b
            have s2W4135 := own_next s2W413 b
            have hXY := Nat.ne_of_lt XW413.lt
            have o1Y : _ ≠ some W413.heap.size := fun e => absurd (own_lt s1W413 e) (Nat.lt_irrefl _)
            have o2Y : _ ≠ some W413.heap.size := fun e => absurd (own_lt s2W413 e) (Nat.lt_irrefl _)
            refine hK.out _ _ ⟨TW4135, (Aq.next TW4135).cell, (Dq.next TW4135).cell⟩ (fun hS' => ?_)
            clear hK K hS b
            have hS := hS'
            clear hS'
            try simp only [Act.put, List.getElem_toArray, List.getElem_cons_zero, List.getElem_cons_succ, List.setIfInBounds_toArray, List.set_cons_zero, List.set_cons_succ]
            refine wpAnyH_ready (rs := [6]) (by kernel_rfl) (by simp) ?_
            refine AllReadyH.cons rfl (fun K hK => ?_) AllReadyH.nil
            rw [if_pos (by rfl)]
            refine wp_store_row 32 (.tmp 7) (.tmp 29) rfl _ #[.int .u8 k1, .int .i64 a1, .int .i64 y1, .slice B1 n1 p1] rfl rfl 32 #[.int .u8 0, .int .i64 0, .int .i64 0, .slice none 0 0] XW4135 (by kernel_rfl) rfl (by kernel_rfl) ?_
            have X7 := BoxOf.set XW4135 #[.int .u8 k1, .int .i64 a1, .int .i64 y1, .slice B1 n1 p1]
            have Y7 := BoxOf.other YW4135 hXY.symm #[.int .u8 k1, .int .i64 a1, .int .i64 y1, .slice B1 n1 p1]
            have s17 := own_setRow s1W4135 o1X #[.int .u8 k1, .int .i64 a1, .int .i64 y1, .slice B1 n1 p1]
            have s27 := own_setRow s2W4135 o2X #[.int .u8 k1, .int .i64 a1, .int .i64 y1, .slice B1 n1 p1]
            have T7 := below_setRow TW4135 hX #[.int .u8 k1, .int .i64 a1, .int .i64 y1, .slice B1 n1 p1]
            refine hK.out _ _ ⟨T7, (Aq.next T7).cell, (Dq.next T7).cell⟩ (fun hS' => ?_)
            clear hK K hS
            have hS := hS'
            clear hS'
            try simp only [Act.put, List.getElem_toArray, List.getElem_cons_zero, List.getElem_cons_succ, List.setIfInBounds_toArray, List.set_cons_zero, List.set_cons_succ]
            refine wpAnyH_ready (rs := [7]) (by kernel_rfl) (by simp) ?_
            refine AllReadyH.cons rfl (fun K hK => ?_) AllReadyH.nil
            rw [if_pos (by rfl)]
            refine wp_store_row 32 (.tmp 8) (.tmp 31) rfl _ #[.int .u8 k2, .int .i64 a2, .int .i64 y2, .slice B2 n2 p2] rfl rfl 32 #[.int .u8 0, .int .i64 0, .int .i64 0, .slice none 0 0] Y7 (by kernel_rfl) rfl (by kernel_rfl) ?_
            have Y8 := BoxOf.set Y7 #[.int .u8 k2, .int .i64 a2, .int .i64 y2, .slice B2 n2 p2]
            have X8 := BoxOf.other X7 hXY #[.int .u8 k2, .int .i64 a2, .int .i64 y2, .slice B2 n2 p2]
            have s18 := own_setRow s17 o1Y #[.int .u8 k2, .int .i64 a2, .int .i64 y2, .slice B2 n2 p2]
            have s28 := own_setRow s27 o2Y #[.int .u8 k2, .int .i64 a2, .int .i64 y2, .slice B2 n2 p2]
            have T8 := below_setRow T7 hY #[.int .u8 k2, .int .i64 a2, .int .i64 y2, .slice B2 n2 p2]
            refine hK.out _ _ ⟨T8, (Aq.next T8).cell, (Dq.next T8).cell⟩ (fun hS' => ?_)
            clear hK K hS hS'
            refine wpAnyH_done (by kernel_rfl) ?_ _
            go_wp2_with fail
            go_meet
            exact ⟨_, _, B1, B2, p1, p2, rfl, rfl, Ext.trans tq T8, Cq.next T8, Aq.next T8, Dq.next T8, X8, Y8, R1.below T8, R2.below T8, bs_own s18, bs_own s28⟩
        · rw [if_pos (by rfl)]
          go_simp
          have b := Ext.alloc (Below.refl W41.heap.size W41) (.cells #[.int .u8 0, .int .i64 0, .int .i64 0, .slice none 0 0] 32)
          have YW415 := BoxOf.new W41 #[.int .u8 0, .int .i64 0, .int .i64 0, .slice none 0 0] 32
          have hY := TW41.size
          generalize W41.alloc (.cells #[.int .u8 0, .int .i64 0, .int .i64 0, .slice none 0 0] 32) = W415 at b YW415 ⊢
          have TW415 := Below.trans TW41 (b.mono TW41.size)
          have XW415 := XW41.next b
          have s1W415 := own_next s1W41 b
          have hXY := Nat.ne_of_lt XW41.lt
          have o1Y : _ ≠ some W41.heap.size := fun e => absurd (own_lt s1W41 e) (Nat.lt_irrefl _)
          refine hK.out _ _ ⟨TW415, (Aq.next TW415).cell, (Dq.next TW415).cell⟩ (fun hS' => ?_)
          clear hK K hS b
          have hS := hS'
          clear hS'
          try simp only [Act.put, List.getElem_toArray, List.getElem_cons_zero, List.getElem_cons_succ, List.setIfInBounds_toArray, List.set_cons_zero, List.set_cons_succ]
          refine wpAnyH_ready (rs := [3]) (by kernel_rfl) (by simp) ?_
          refine AllReadyH.cons rfl (fun K hK => ?_) AllReadyH.nil
          · rw [if_pos (by rfl)]
            go_simp
            refine (twin_any k2 a2 y2 A2 n2 q2 bs2 hn2 _ (R2.below TW415)).mono ?_
            rintro e W4153 ⟨B2, p2, rfl, s2W4153, b⟩
            have TW4153 := Below.trans TW415 (b.mono TW415.size)
            have XW4153 := XW415.next b
            have s1W4153 := own_next s1W415 b
            have YW4153 := YW415.next b
            have o2X := own_ne s2W4153 XW415.lt
            have o2Y := own_ne s2W4153 YW415.lt
            refine hK.out _ _ ⟨TW4153, (Aq.next TW4153).cell, (Dq.next TW4153).cell⟩ (fun hS' => ?_)
            clear hK K hS b
            have hS := hS'
            clear hS'
            try simp only [Act.put, List.getElem_toArray, List.getElem_cons_zero, List.getElem_cons_succ, List.setIfInBounds_toArray, List.set_cons_zero, List.set_cons_succ]
            refine wpAnyH_ready (rs := [6]) (by kernel_rfl) (by simp) ?_
            refine AllReadyH.cons rfl (fun K hK => ?_) AllReadyH.nil
            rw [if_pos (by rfl)]
            refine wp_store_row 32 (.tmp 7) (.tmp 29) rfl _ #[.int .u8 k1, .int .i64 a1, .int .i64 y1, .slice B1 n1 p1] rfl rfl 32 #[.int .u8 0, .int .i64 0, .int .i64 0, .slice none 0 0] XW4153 (by kernel_rfl) rfl (by kernel_rfl) ?_
            have X7 := BoxOf.set XW4153 #[.int .u8 k1, .int .i64 a1, .int .i64 y1, .slice B1 n1 p1]
            have Y7 := BoxOf.other YW4153 hXY.symm #[.int .u8 k1, .int .i64 a1, .int .i64 y1, .slice B1 n1 p1]
            have s17 := own_setRow s1W4153 o1X #[.int .u8 k1, .int .i64 a1, .int .i64 y1, .slice B1 n1 p1]
            have s27 := own_setRow s2W4153 o2X #[.int .u8 k1, .int .i64 a1, .int .i64 y1, .slice B1 n1 p1]
            have T7 := below_setRow TW4153 hX #[.int .u8 k1, .int .i64 a1, .int .i64 y1, .slice B1 n1 p1]
            refine hK.out _ _ ⟨T7, (Aq.next T7).cell, (Dq.next T7).cell⟩ (fun hS' => ?_)
            clear hK K hS
            have hS := hS'
            clear hS'
            try simp only [Act.put, List.getElem_toArray, List.getElem_cons_zero, List.getElem_cons_succ, List.setIfInBounds_toArray, List.set_cons_zero, List.set_cons_succ]
            refine wpAnyH_ready (rs := [7]) (by kernel_rfl) (by simp) ?_
            refine AllReadyH.cons rfl (fun K hK => ?_) AllReadyH.nil
            rw [if_pos (by rfl)]
            refine wp_store_row 32 (.tmp 8) (.tmp 31) rfl _ #[.int .u8 k2, .int .i64 a2, .int .i64 y2, .slice B2 n2 p2] rfl rfl 32 #[.int .u8 0, .int .i64 0, .int .i64 0, .slice none 0 0] Y7 (by kernel_rfl) rfl (by kernel_rfl) ?_
            have Y8 := BoxOf.set Y7 #[.int .u8 k2, .int .i64 a2, .int .i64 y2, .slice B2 n2 p2]
            have X8 := BoxOf.other X7 hXY #[.int .u8 k2, .int .i64 a2, .int .i64 y2, .slice B2 n2 p2]
            have s18 := own_setRow s17 o1Y #[.int .u8 k2, .int .i64 a2, .int .i64 y2, .slice B2 n2 p2]
            have s28 := own_setRow s27 o2Y #[.int .u8 k2, .int .i64 a2, .int .i64 y2, .slice B2 n2 p2]
            have T8 := below_setRow T7 hY #[.int .u8 k2, .int .i64 a2, .int .i64 y2, .slice B2 n2 p2]
            refine hK.out _ _ ⟨T8, (Aq.next T8).cell, (Dq.next T8).cell⟩ (fun hS' => ?_)
            clear hK K hS hS'
            refine wpAnyH_done (by kernel_rfl) ?_ _
            go_wp2_with fail
            go_meet
            exact ⟨_, _, B1, B2, p1, p2, rfl, rfl, Ext.trans tq T8, Cq.next T8, Aq.next T8, Dq.next T8, X8, Y8, R1.below T8, R2.below T8, bs_own s18, bs_own s28⟩
      · rw [if_pos (by rfl)]
        go_simp
        have b := Ext.alloc (Below.refl W4.heap.size W4) (.cells #[.int .u8 0, .int .i64 0, .int .i64 0, .slice none 0 0] 32)
        have YW45 := BoxOf.new W4 #[.int .u8 0, .int .i64 0, .int .i64 0, .slice none 0 0] 32
        have hY := TW4.size
        generalize W4.alloc (.cells #[.int .u8 0, .int .i64 0, .int .i64 0, .slice none 0 0] 32) = W45 at b YW45 ⊢
        have TW45 := Below.trans TW4 (b.mono TW4.size)
        have XW45 := XW4.next b
        have hXY := Nat.ne_of_lt XW4.lt
        refine hK.out _ _ ⟨TW45, (Aq.next TW45).cell, (Dq.next TW45).cell⟩ (fun hS' => ?_)
        clear hK K hS b
        have hS := hS'
        clear hS'
        try simp only [Act.put, List.getElem_toArray, List.getElem_cons_zero, List.getElem_cons_succ, List.setIfInBounds_toArray, List.set_cons_zero, List.set_cons_succ]
        refine wpAnyH_ready (rs := [1]) (by kernel_rfl) (by simp) ?_
        refine AllReadyH.cons rfl (fun K hK => ?_) AllReadyH.nil
        · rw [if_pos (by rfl)]
          go_simp
          refine (twin_any k1 a1 y1 A1 n1 q1 bs1 hn1 _ (R1.below TW45)).mono ?_
          rintro e W451 ⟨B1, p1, rfl, s1W451, b⟩
          have TW451 := Below.trans TW45 (b.mono TW45.size)
          have XW451 := XW45.next b
          have YW451 := YW45.next b
          have o1X := own_ne s1W451 XW45.lt
          have o1Y := own_ne s1W451 YW45.lt
          refine hK.out _ _ ⟨TW451, (Aq.next TW451).cell, (Dq.next TW451).cell⟩ (fun hS' => ?_)
          clear hK K hS b
          have hS := hS'
          clear hS'
          try simp only [Act.put, List.getElem_toArray, List.getElem_cons_zero, List.getElem_cons_succ, List.setIfInBounds_toArray, List.set_cons_zero, List.set_cons_succ]
          refine wpAnyH_ready (rs := [3]) (by kernel_rfl) (by simp) ?_
          refine AllReadyH.cons rfl (fun K hK => ?_) AllReadyH.nil
          · rw [if_pos (by rfl)]
            go_simp
            refine (twin_any k2 a2 y2 A2 n2 q2 bs2 hn2 _ (R2.below TW451)).mono ?_
            rintro e W4513 ⟨B2, p2, rfl, s2W4513, b⟩
            have TW4513 := Below.trans TW451 (b.mono TW451.size)
            have XW4513 := XW451.next b
            have YW4513 := YW451.next b
            have s1W4513 := own_next s1W451 b
            have o2X := own_ne s2W4513 XW451.lt
            have o2Y := own_ne s2W4513 YW451.lt
            refine hK.out _ _ ⟨TW4513, (Aq.next TW4513).cell, (Dq.next TW4513).cell⟩ (fun hS' => ?_)
            clear hK K hS b
            have hS := hS'
            clear hS'
            try simp only [Act.put, List.getElem_toArray, List.getElem_cons_zero, List.getElem_cons_succ, List.setIfInBounds_toArray, List.set_cons_zero, List.set_cons_succ]
            refine wpAnyH_ready (rs := [6]) (by kernel_rfl) (by simp) ?_
            refine AllReadyH.cons rfl (fun K hK => ?_) AllReadyH.nil
            rw [if_pos (by rfl)]
            refine wp_store_row 32 (.tmp 7) (.tmp 29) rfl _ #[.int .u8 k1, .int .i64 a1, .int .i64 y1, .slice B1 n1 p1] rfl rfl 32 #[.int .u8 0, .int .i64 0, .int .i64 0, .slice none 0 0] XW4513 (by kernel_rfl) rfl (by kernel_rfl) ?_
            have X7 := BoxOf.set XW4513 #[.int .u8 k1, .int .i64 a1, .int .i64 y1, .slice B1 n1 p1]
            have Y7 := BoxOf.other YW4513 hXY.symm #[.int .u8 k1, .int .i64 a1, .int .i64 y1, .slice B1 n1 p1]
            have s17 := own_setRow s1W4513 o1X #[.int .u8 k1, .int .i64 a1, .int .i64 y1, .slice B1 n1 p1]
            have s27 := own_setRow s2W4513 o2X #[.int .u8 k1, .int .i64 a1, .int .i64 y1, .slice B1 n1 p1]
            have T7 := below_setRow TW4513 hX #[.int .u8 k1, .int .i64 a1, .int .i64 y1, .slice B1 n1 p1]
            refine hK.out _ _ ⟨T7, (Aq.next T7).cell, (Dq.next T7).cell⟩ (fun hS' => ?_)
            clear hK K hS
            have hS := hS'
            clear hS'
            try simp only [Act.put, List.getElem_toArray, List.getElem_cons_zero, List.getElem_cons_succ, List.setIfInBounds_toArray, List.set_cons_zero, List.set_cons_succ]
            refine wpAnyH_ready (rs := [7]) (by kernel_rfl) (by simp) ?_
            refine AllReadyH.cons rfl (fun K hK => ?_) AllReadyH.nil
            rw [if_pos (by rfl)]
            refine wp_store_row 32 (.tmp 8) (.tmp 31) rfl _ #[.int .u8 k2, .int .i64 a2, .int .i64 y2, .slice B2 n2 p2] rfl rfl 32 #[.int .u8 0, .int .i64 0, .int .i64 0, .slice none 0 0] Y7 (by kernel_rfl) rfl (by kernel_rfl) ?_
            have Y8 := BoxOf.set Y7 #[.int .u8 k2, .int .i64 a2, .int .i64 y2, .slice B2 n2 p2]
            have X8 := BoxOf.other X7 hXY #[.int .u8 k2, .int .i64 a2, .int .i64 y2, .slice B2 n2 p2]
            have s18 := own_setRow s17 o1Y #[.int .u8 k2, .int .i64 a2, .int .i64 y2, .slice B2 n2 p2]
            have s28 := own_setRow s27 o2Y #[.int .u8 k2, .int .i64 a2, .int .i64 y2, .slice B2 n2 p2]
            have T8 := below_setRow T7 hY #[.int .u8 k2, .int .i64 a2, .int .i64 y2, .slice B2 n2 p2]
            refine hK.out _ _ ⟨T8, (Aq.next T8).cell, (Dq.next T8).cell⟩ (fun hS' => ?_)
            clear hK K hS hS'
            refine wpAnyH_done (by kernel_rfl) ?_ _
            go_wp2_with fail
            go_meet
            exact ⟨_, _, B1, B2, p1, p2, rfl, rfl, Ext.trans tq T8, Cq.next T8, Aq.next T8, Dq.next T8, X8, Y8, R1.below T8, R2.below T8, bs_own s18, bs_own s28⟩
    · rw [if_pos (by rfl)]
      go_simp
      have b := Ext.alloc (Below.refl W.heap.size W) (.cells #[.int .u8 0, .int .i64 0, .int .i64 0, .slice none 0 0] 32)
      have YW5 := BoxOf.new W #[.int .u8 0, .int .i64 0, .int .i64 0, .slice none 0 0] 32
      have hY := TW.size
      generalize W.alloc (.cells #[.int .u8 0, .int .i64 0, .int .i64 0, .slice none 0 0] 32) = W5 at b YW5 ⊢
      have TW5 := Below.trans TW (b.mono TW.size)
      refine hK.out _ _ ⟨TW5, (Aq.next TW5).cell, (Dq.next TW5).cell⟩ (fun hS' => ?_)
      clear hK K hS b
      have hS := hS'
      clear hS'
      try simp only [Act.put, List.getElem_toArray, List.getElem_cons_zero, List.getElem_cons_succ, List.setIfInBounds_toArray, List.set_cons_zero, List.set_cons_succ]
      refine wpAnyH_ready (rs := [1, 4]) (by kernel_rfl) (by simp) ?_
      refine AllReadyH.cons rfl (fun K hK => ?_) (AllReadyH.cons rfl (fun K hK => ?_) AllReadyH.nil)
      · rw [if_pos (by rfl)]
        go_simp
        refine (twin_any k1 a1 y1 A1 n1 q1 bs1 hn1 _ (R1.below TW5)).mono ?_
        rintro e W51 ⟨B1, p1, rfl, s1W51, b⟩
        have TW51 := Below.trans TW5 (b.mono TW5.size)
        have YW51 := YW5.next b
        have o1Y := own_ne s1W51 YW5.lt
        refine hK.out _ _ ⟨TW51, (Aq.next TW51).cell, (Dq.next TW51).cell⟩ (fun hS' => ?_)
        clear hK K hS b
        have hS := hS'
        clear hS'
        try simp only [Act.put, List.getElem_toArray, List.getElem_cons_zero, List.getElem_cons_succ, List.setIfInBounds_toArray, List.set_cons_zero, List.set_cons_succ]
        refine wpAnyH_ready (rs := [3, 4]) (by kernel_rfl) (by simp) ?_
        refine AllReadyH.cons rfl (fun K hK => ?_) (AllReadyH.cons rfl (fun K hK => ?_) AllReadyH.nil)
        · rw [if_pos (by rfl)]
          go_simp
          refine (twin_any k2 a2 y2 A2 n2 q2 bs2 hn2 _ (R2.below TW51)).mono ?_
          rintro e W513 ⟨B2, p2, rfl, s2W513, b⟩
          have TW513 := Below.trans TW51 (b.mono TW51.size)
          have YW513 := YW51.next b
          have s1W513 := own_next s1W51 b
          have o2Y := own_ne s2W513 YW51.lt
          refine hK.out _ _ ⟨TW513, (Aq.next TW513).cell, (Dq.next TW513).cell⟩ (fun hS' => ?_)
          clear hK K hS b
          have hS := hS'
          clear hS'
          try simp only [Act.put, List.getElem_toArray, List.getElem_cons_zero, List.getElem_cons_succ, List.setIfInBounds_toArray, List.set_cons_zero, List.set_cons_succ]
          refine wpAnyH_ready (rs := [4]) (by kernel_rfl) (by simp) ?_
          refine AllReadyH.cons rfl (fun K hK => ?_) AllReadyH.nil
          · rw [if_pos (by rfl)]
            go_simp
            have b := Ext.alloc (Below.refl W513.heap.size W513) (.cells #[.int .u8 0, .int .i64 0, .int .i64 0, .slice none 0 0] 32)
            have XW5134 := BoxOf.new W513 #[.int .u8 0, .int .i64 0, .int .i64 0, .slice none 0 0] 32
            have hX := TW513.size
            generalize W513.alloc (.cells #[.int .u8 0, .int .i64 0, .int .i64 0, .slice none 0 0] 32) = W5134 at b XW5134 ⊢
            have TW5134 := Below.trans TW513 (b.mono TW513.size)
            have YW5134 := YW513.next b
            have s1W5134 := own_next s1W513 b
            have s2W5134 := own_next s2W513 b
            have hXY := Nat.ne_of_gt YW513.lt
            have o1X : _ ≠ some W513.heap.size := fun e => absurd (own_lt s1W513 e) (Nat.lt_irrefl _)
            have o2X : _ ≠ some W513.heap.size := fun e => absurd (own_lt s2W513 e) (Nat.lt_irrefl _)
            refine hK.out _ _ ⟨TW5134, (Aq.next TW5134).cell, (Dq.next TW5134).cell⟩ (fun hS' => ?_)
            clear hK K hS b
            have hS := hS'
            clear hS'
            try simp only [Act.put, List.getElem_toArray, List.getElem_cons_zero, List.getElem_cons_succ, List.setIfInBounds_toArray, List.set_cons_zero, List.set_cons_succ]
            refine wpAnyH_ready (rs := [6]) (by kernel_rfl) (by simp) ?_
            refine AllReadyH.cons rfl (fun K hK => ?_) AllReadyH.nil
            rw [if_pos (by rfl)]
            refine wp_store_row 32 (.tmp 7) (.tmp 29) rfl _ #[.int .u8 k1, .int .i64 a1, .int .i64 y1, .slice B1 n1 p1] rfl rfl 32 #[.int .u8 0, .int .i64 0, .int .i64 0, .slice none 0 0] XW5134 (by kernel_rfl) rfl (by kernel_rfl) ?_
            have X7 := BoxOf.set XW5134 #[.int .u8 k1, .int .i64 a1, .int .i64 y1, .slice B1 n1 p1]
            have Y7 := BoxOf.other YW5134 hXY.symm #[.int .u8 k1, .int .i64 a1, .int .i64 y1, .slice B1 n1 p1]
            have s17 := own_setRow s1W5134 o1X #[.int .u8 k1, .int .i64 a1, .int .i64 y1, .slice B1 n1 p1]
            have s27 := own_setRow s2W5134 o2X #[.int .u8 k1, .int .i64 a1, .int .i64 y1, .slice B1 n1 p1]
            have T7 := below_setRow TW5134 hX #[.int .u8 k1, .int .i64 a1, .int .i64 y1, .slice B1 n1 p1]
            refine hK.out _ _ ⟨T7, (Aq.next T7).cell, (Dq.next T7).cell⟩ (fun hS' => ?_)
            clear hK K hS
            have hS := hS'
            clear hS'
            try simp only [Act.put, List.getElem_toArray, List.getElem_cons_zero, List.getElem_cons_succ, List.setIfInBounds_toArray, List.set_cons_zero, List.set_cons_succ]
            refine wpAnyH_ready (rs := [7]) (by kernel_rfl) (by simp) ?_
            refine AllReadyH.cons rfl (fun K hK => ?_) AllReadyH.nil
            rw [if_pos (by rfl)]
            refine wp_store_row 32 (.tmp 8) (.tmp 31) rfl _ #[.int .u8 k2, .int .i64 a2, .int .i64 y2, .slice B2 n2 p2] rfl rfl 32 #[.int .u8 0, .int .i64 0, .int .i64 0, .slice none 0 0] Y7 (by kernel_rfl) rfl (by kernel_rfl) ?_
            have Y8 := BoxOf.set Y7 #[.int .u8 k2, .int .i64 a2, .int .i64 y2, .slice B2 n2 p2]
            have X8 := BoxOf.other X7 hXY #[.int .u8 k2, .int .i64 a2, .int .i64 y2, .slice B2 n2 p2]
            have s18 := own_setRow s17 o1Y #[.int .u8 k2, .int .i64 a2, .int .i64 y2, .slice B2 n2 p2]
            have s28 := own_setRow s27 o2Y #[.int .u8 k2, .int .i64 a2, .int .i64 y2, .slice B2 n2 p2]
            have T8 := below_setRow T7 hY #[.int .u8 k2, .int .i64 a2, .int .i64 y2, .slice B2 n2 p2]
            refine hK.out _ _ ⟨T8, (Aq.next T8).cell, (Dq.next T8).cell⟩ (fun hS' => ?_)
            clear hK K hS hS'
            refine wpAnyH_done (by kernel_rfl) ?_ _
            go_wp2_with fail
            go_meet
            exact ⟨_, _, B1, B2, p1, p2, rfl, rfl, Ext.trans tq T8, Cq.next T8, Aq.next T8, Dq.next T8, X8, Y8, R1.below T8, R2.below T8, bs_own s18, bs_own s28⟩
        · rw [if_pos (by rfl)]
          go_simp
          have b := Ext.alloc (Below.refl W51.heap.size W51) (.cells #[.int .u8 0, .int .i64 0, .int .i64 0, .slice none 0 0] 32)
          have XW514 := BoxOf.new W51 #[.int .u8 0, .int .i64 0, .int .i64 0, .slice none 0 0] 32
          have hX := TW51.size
          generalize W51.alloc (.cells #[.int .u8 0, .int .i64 0, .int .i64 0, .slice none 0 0] 32) = W514 at b XW514 ⊢
          have TW514 := Below.trans TW51 (b.mono TW51.size)
          have YW514 := YW51.next b
          have s1W514 := own_next s1W51 b
          have hXY := Nat.ne_of_gt YW51.lt
          have o1X : _ ≠ some W51.heap.size := fun e => absurd (own_lt s1W51 e) (Nat.lt_irrefl _)
          refine hK.out _ _ ⟨TW514, (Aq.next TW514).cell, (Dq.next TW514).cell⟩ (fun hS' => ?_)
          clear hK K hS b
          have hS := hS'
          clear hS'
          try simp only [Act.put, List.getElem_toArray, List.getElem_cons_zero, List.getElem_cons_succ, List.setIfInBounds_toArray, List.set_cons_zero, List.set_cons_succ]
          refine wpAnyH_ready (rs := [3]) (by kernel_rfl) (by simp) ?_
          refine AllReadyH.cons rfl (fun K hK => ?_) AllReadyH.nil
          · rw [if_pos (by rfl)]
            go_simp
            refine (twin_any k2 a2 y2 A2 n2 q2 bs2 hn2 _ (R2.below TW514)).mono ?_
            rintro e W5143 ⟨B2, p2, rfl, s2W5143, b⟩
            have TW5143 := Below.trans TW514 (b.mono TW514.size)
            have YW5143 := YW514.next b
            have s1W5143 := own_next s1W514 b
            have XW5143 := XW514.next b
            have o2Y := own_ne s2W5143 YW514.lt
            have o2X := own_ne s2W5143 XW514.lt
            refine hK.out _ _ ⟨TW5143, (Aq.next TW5143).cell, (Dq.next TW5143).cell⟩ (fun hS' => ?_)
            clear hK K hS b
            have hS := hS'
            clear hS'
            try simp only [Act.put, List.getElem_toArray, List.getElem_cons_zero, List.getElem_cons_succ, List.setIfInBounds_toArray, List.set_cons_zero, List.set_cons_succ]
            refine wpAnyH_ready (rs := [6]) (by kernel_rfl) (by simp) ?_
            refine AllReadyH.cons rfl (fun K hK => ?_) AllReadyH.nil
            rw [if_pos (by rfl)]
            refine wp_store_row 32 (.tmp 7) (.tmp 29) rfl _ #[.int .u8 k1, .int .i64 a1, .int .i64 y1, .slice B1 n1 p1] rfl rfl 32 #[.int .u8 0, .int .i64 0, .int .i64 0, .slice none 0 0] XW5143 (by kernel_rfl) rfl (by kernel_rfl) ?_
            have X7 := BoxOf.set XW5143 #[.int .u8 k1, .int .i64 a1, .int .i64 y1, .slice B1 n1 p1]
            have Y7 := BoxOf.other YW5143 hXY.symm #[.int .u8 k1, .int .i64 a1, .int .i64 y1, .slice B1 n1 p1]
            have s17 := own_setRow s1W5143 o1X #[.int .u8 k1, .int .i64 a1, .int .i64 y1, .slice B1 n1 p1]
            have s27 := own_setRow s2W5143 o2X #[.int .u8 k1, .int .i64 a1, .int .i64 y1, .slice B1 n1 p1]
            have T7 := below_setRow TW5143 hX #[.int .u8 k1, .int .i64 a1, .int .i64 y1, .slice B1 n1 p1]
            refine hK.out _ _ ⟨T7, (Aq.next T7).cell, (Dq.next T7).cell⟩ (fun hS' => ?_)
            clear hK K hS
            have hS := hS'
            clear hS'
            try simp only [Act.put, List.getElem_toArray, List.getElem_cons_zero, List.getElem_cons_succ, List.setIfInBounds_toArray, List.set_cons_zero, List.set_cons_succ]
            refine wpAnyH_ready (rs := [7]) (by kernel_rfl) (by simp) ?_
            refine AllReadyH.cons rfl (fun K hK => ?_) AllReadyH.nil
            rw [if_pos (by rfl)]
            refine wp_store_row 32 (.tmp 8) (.tmp 31) rfl _ #[.int .u8 k2, .int .i64 a2, .int .i64 y2, .slice B2 n2 p2] rfl rfl 32 #[.int .u8 0, .int .i64 0, .int .i64 0, .slice none 0 0] Y7 (by kernel_rfl) rfl (by kernel_rfl) ?_
            have Y8 := BoxOf.set Y7 #[.int .u8 k2, .int .i64 a2, .int .i64 y2, .slice B2 n2 p2]
            have X8 := BoxOf.other X7 hXY #[.int .u8 k2, .int .i64 a2, .int .i64 y2, .slice B2 n2 p2]
            have s18 := own_setRow s17 o1Y #[.int .u8 k2, .int .i64 a2, .int .i64 y2, .slice B2 n2 p2]
            have s28 := own_setRow s27 o2Y #[.int .u8 k2, .int .i64 a2, .int .i64 y2, .slice B2 n2 p2]
            have T8 := below_setRow T7 hY #[.int .u8 k2, .int .i64 a2, .int .i64 y2, .slice B2 n2 p2]
            refine hK.out _ _ ⟨T8, (Aq.next T8).cell, (Dq.next T8).cell⟩ (fun hS' => ?_)
            clear hK K hS hS'
            refine wpAnyH_done (by kernel_rfl) ?_ _
            go_wp2_with fail
            go_meet
            exact ⟨_, _, B1, B2, p1, p2, rfl, rfl, Ext.trans tq T8, Cq.next T8, Aq.next T8, Dq.next T8, X8, Y8, R1.below T8, R2.below T8, bs_own s18, bs_own s28⟩
      · rw [if_pos (by rfl)]
        go_simp
        have b := Ext.alloc (Below.refl W5.heap.size W5) (.cells #[.int .u8 0, .int .i64 0, .int .i64 0, .slice none 0 0] 32)
        have XW54 := BoxOf.new W5 #[.int .u8 0, .int .i64 0, .int .i64 0, .slice none 0 0] 32
        have hX := TW5.size
        generalize W5.alloc (.cells #[.int .u8 0, .int .i64 0, .int .i64 0, .slice none 0 0] 32) = W54 at b XW54 ⊢
        have TW54 := Below.trans TW5 (b.mono TW5.size)
        have YW54 := YW5.next b
        have hXY := Nat.ne_of_gt YW5.lt
        refine hK.out _ _ ⟨TW54, (Aq.next TW54).cell, (Dq.next TW54).cell⟩ (fun hS' => ?_)
        clear hK K hS b
        have hS := hS'
        clear hS'
        try simp only [Act.put, List.getElem_toArray, List.getElem_cons_zero, List.getElem_cons_succ, List.setIfInBounds_toArray, List.set_cons_zero, List.set_cons_succ]
        refine wpAnyH_ready (rs := [1]) (by kernel_rfl) (by simp) ?_
        refine AllReadyH.cons rfl (fun K hK => ?_) AllReadyH.nil
        · rw [if_pos (by rfl)]
          go_simp
          refine (twin_any k1 a1 y1 A1 n1 q1 bs1 hn1 _ (R1.below TW54)).mono ?_
          rintro e W541 ⟨B1, p1, rfl, s1W541, b⟩
          have TW541 := Below.trans TW54 (b.mono TW54.size)
          have YW541 := YW54.next b
          have XW541 := XW54.next b
          have o1Y := own_ne s1W541 YW54.lt
          have o1X := own_ne s1W541 XW54.lt
          refine hK.out _ _ ⟨TW541, (Aq.next TW541).cell, (Dq.next TW541).cell⟩ (fun hS' => ?_)
          clear hK K hS b
          have hS := hS'
          clear hS'
          try simp only [Act.put, List.getElem_toArray, List.getElem_cons_zero, List.getElem_cons_succ, List.setIfInBounds_toArray, List.set_cons_zero, List.set_cons_succ]
          refine wpAnyH_ready (rs := [3]) (by kernel_rfl) (by simp) ?_
          refine AllReadyH.cons rfl (fun K hK => ?_) AllReadyH.nil
          · rw [if_pos (by rfl)]
            go_simp
            refine (twin_any k2 a2 y2 A2 n2 q2 bs2 hn2 _ (R2.below TW541)).mono ?_
            rintro e W5413 ⟨B2, p2, rfl, s2W5413, b⟩
            have TW5413 := Below.trans TW541 (b.mono TW541.size)
            have YW5413 := YW541.next b
            have XW5413 := XW541.next b
            have s1W5413 := own_next s1W541 b
            have o2Y := own_ne s2W5413 YW541.lt
            have o2X := own_ne s2W5413 XW541.lt
            refine hK.out _ _ ⟨TW5413, (Aq.next TW5413).cell, (Dq.next TW5413).cell⟩ (fun hS' => ?_)
            clear hK K hS b
            have hS := hS'
            clear hS'
            try simp only [Act.put, List.getElem_toArray, List.getElem_cons_zero, List.getElem_cons_succ, List.setIfInBounds_toArray, List.set_cons_zero, List.set_cons_succ]
            refine wpAnyH_ready (rs := [6]) (by kernel_rfl) (by simp) ?_
            refine AllReadyH.cons rfl (fun K hK => ?_) AllReadyH.nil
            rw [if_pos (by rfl)]
            refine wp_store_row 32 (.tmp 7) (.tmp 29) rfl _ #[.int .u8 k1, .int .i64 a1, .int .i64 y1, .slice B1 n1 p1] rfl rfl 32 #[.int .u8 0, .int .i64 0, .int .i64 0, .slice none 0 0] XW5413 (by kernel_rfl) rfl (by kernel_rfl) ?_
            have X7 := BoxOf.set XW5413 #[.int .u8 k1, .int .i64 a1, .int .i64 y1, .slice B1 n1 p1]
            have Y7 := BoxOf.other YW5413 hXY.symm #[.int .u8 k1, .int .i64 a1, .int .i64 y1, .slice B1 n1 p1]
            have s17 := own_setRow s1W5413 o1X #[.int .u8 k1, .int .i64 a1, .int .i64 y1, .slice B1 n1 p1]
            have s27 := own_setRow s2W5413 o2X #[.int .u8 k1, .int .i64 a1, .int .i64 y1, .slice B1 n1 p1]
            have T7 := below_setRow TW5413 hX #[.int .u8 k1, .int .i64 a1, .int .i64 y1, .slice B1 n1 p1]
            refine hK.out _ _ ⟨T7, (Aq.next T7).cell, (Dq.next T7).cell⟩ (fun hS' => ?_)
            clear hK K hS
            have hS := hS'
            clear hS'
            try simp only [Act.put, List.getElem_toArray, List.getElem_cons_zero, List.getElem_cons_succ, List.setIfInBounds_toArray, List.set_cons_zero, List.set_cons_succ]
            refine wpAnyH_ready (rs := [7]) (by kernel_rfl) (by simp) ?_
            refine AllReadyH.cons rfl (fun K hK => ?_) AllReadyH.nil
            rw [if_pos (by rfl)]
            refine wp_store_row 32 (.tmp 8) (.tmp 31) rfl _ #[.int .u8 k2, .int .i64 a2, .int .i64 y2, .slice B2 n2 p2] rfl rfl 32 #[.int .u8 0, .int .i64 0, .int .i64 0, .slice none 0 0] Y7 (by kernel_rfl) rfl (by kernel_rfl) ?_
            have Y8 := BoxOf.set Y7 #[.int .u8 k2, .int .i64 a2, .int .i64 y2, .slice B2 n2 p2]
            have X8 := BoxOf.other X7 hXY #[.int .u8 k2, .int .i64 a2, .int .i64 y2, .slice B2 n2 p2]
            have s18 := own_setRow s17 o1Y #[.int .u8 k2, .int .i64 a2, .int .i64 y2, .slice B2 n2 p2]
            have s28 := own_setRow s27 o2Y #[.int .u8 k2, .int .i64 a2, .int .i64 y2, .slice B2 n2 p2]
            have T8 := below_setRow T7 hY #[.int .u8 k2, .int .i64 a2, .int .i64 y2, .slice B2 n2 p2]
            refine hK.out _ _ ⟨T8, (Aq.next T8).cell, (Dq.next T8).cell⟩ (fun hS' => ?_)
            clear hK K hS hS'
            refine wpAnyH_done (by kernel_rfl) ?_ _
            go_wp2_with fail
            go_meet
            exact ⟨_, _, B1, B2, p1, p2, rfl, rfl, Ext.trans tq T8, Cq.next T8, Aq.next T8, Dq.next T8, X8, Y8, R1.below T8, R2.below T8, bs_own s18, bs_own s28⟩
  case rest =>
    obtain ⟨gX, gY, B1, B2, p1, p2, rfl, rfl, h0⟩ := hcut
    clear r1 r2 hi1 hi2
    have xc0 := h0.c.cell
    have xa0 := h0.a.cell
    have xd0 := h0.d.cell
    have xx0 := h0.x.cell
    have xy0 := h0.y.cell
    clear xd0 xy0
    go_wp2_with fail
    refine (H1.out _ _ _).mono ?_
    rintro e w1 ⟨P1, c1, rfl, rd1, b1⟩
    have h1 := h0.next b1
    clear xc0
    try clear xa0
    try clear xd0
    try clear xx0
    try clear xy0
    have xc1 := h1.c.cell
    have xa1 := h1.a.cell
    have xd1 := h1.d.cell
    have xx1 := h1.x.cell
    have xy1 := h1.y.cell
    clear h0 b1
    clear xd1 xx1 xy1
    go_wp2_with fail
    refine (H2.out _ _ _).mono ?_
    rintro e w2 ⟨P2, c2, rfl, rd2, b2⟩
    have rd1 := rd1.below b2
    have h2 := h1.next b2
    clear xc1
    try clear xa1
    try clear xd1
    try clear xx1
    try clear xy1
    have xc2 := h2.c.cell
    have xa2 := h2.a.cell
    have xd2 := h2.d.cell
    have xx2 := h2.x.cell
    have xy2 := h2.y.cell
    clear h1 b2
    clear xd2 xa2
    go_wp2_with fail
    refine (H3.out _ _ _ _ _).mono ?_
    rintro e w3 ⟨rfl, b3⟩
    have rd1 := rd1.below b3
    have rd2 := rd2.below b3
    have h3 := h2.next b3
    clear xc2
    try clear xa2
    try clear xd2
    try clear xx2
    try clear xy2
    have xc3 := h3.c.cell
    have xa3 := h3.a.cell
    have xd3 := h3.d.cell
    have xx3 := h3.x.cell
    have xy3 := h3.y.cell
    clear h2 b3
    clear xx3 xy3
    go_wp2_with fail
    refine (H4.out _ _ _ _ _).mono ?_
    rintro e w4 ⟨rfl, b4⟩
    have rd1 := rd1.below b4
    have rd2 := rd2.below b4
    have h4 := h3.next b4
    clear xc3
    try clear xa3
    try clear xd3
    try clear xx3
    try clear xy3
    have xc4 := h4.c.cell
    have xa4 := h4.a.cell
    have xd4 := h4.d.cell
    have xx4 := h4.x.cell
    have xy4 := h4.y.cell
    clear h3 b4
    clear xd4 xy4
    go_wp2_with fail
    have g1 : ((N : Int) != (N : Int)) = false := by simp
    have g2 : (E != E) = false := by simp
    have g3 : (F != F) = false := by simp
    have g4 : (T != T) = false := by simp
    have b0 := Below.refl w4.heap.size w4
    go_region_held3 (fun w' => Below w4.heap.size w4 w' ∧ (∀ o, w'.cell? ⟨w.heap.size, o, none⟩ = #[.int .u32 (id : Int), .int .i64 m, .int .i64 c, .int .i64 r, .int .i64 l, .int .i64 h].toList[o]?) ∧ (∀ o, w'.cell? ⟨w.heap.size + 1, o, none⟩ = #[.int .u8 k1, .int .i64 a1, .int .i64 y1, .slice A1 n1 q1].toList[o]?) ∧ (∀ o, w'.cell? ⟨gX, o, none⟩ = #[.int .u8 k1, .int .i64 a1, .int .i64 y1, .slice B1 n1 p1].toList[o]?))
      (first | exact ⟨Ext.drew b0, xc4, xa4, xx4⟩ | exact ⟨Ext.trans (And.left (by assumption)) k3, (h4.c.next (Ext.trans (And.left (by assumption)) k3)).cell, (h4.a.next (Ext.trans (And.left (by assumption)) k3)).cell, (h4.x.next (Ext.trans (And.left (by assumption)) k3)).cell⟩ | assumption)
      (first
        | (go_at_call 11; refine (H5.out _ _ _).mono ?_; rintro e w5 ⟨rfl, k3⟩)
        | (go_at_call 19; refine (H6.out _ _ _).mono ?_; rintro e w5 ⟨rfl, k3⟩))
    rename_i hH
    have b5 := hH.1
    obtain ⟨w6, rfl⟩ := below_name b5
    have h5 := h4.next b5
    have rd1 := rd1.below b5
    have rd2 := rd2.below b5
    clear hH b0 b5 xc4 xa4 xx4 h4
    have rd1 := rd_seq rd1
    have rd2 := rd_seq rd2
    have rd1 : N ≤ 0 ∨ _ := rd1.imp (fun h => Nat.le_of_eq h) (fun h => h)
    have rd2 : N ≤ 0 ∨ _ := rd2.imp (fun h => Nat.le_of_eq h) (fun h => h)
    clear H1 H2 H3 H4 H5 H6
    clear g1 g2 g3 g4
    go_wp2
    rcases rd1 with hz1 | ⟨bb1, oo1, rfl, hc1⟩ <;> rcases rd2 with hz2 | ⟨bb2, oo2, rfl, hc2⟩
    · go_loopw [17] (fun i wr => ∃ j : Nat, j ≤ N ∧ i = .int .i64 j ∧ Below w6.heap.size w6 wr) (fun i _ => N - (intOf i).toNat)
      case atStart => exact ⟨0, Nat.zero_le _, rfl, Below.refl _ _⟩
      case round =>
        obtain ⟨j, hj, rfl, bj⟩ := hrel
        by_cases hlt : j < N
        · exact absurd hlt (by omega)
        · have h6 := h5.next bj
          have xc6 := h6.c.cell
          have xa6 := h6.a.cell
          have xd6 := h6.d.cell
          have xx6 := h6.x.cell
          have xy6 := h6.y.cell
          clear xc6
          go_wp2_with fail
          refine (same_any k1 a1 y1 B1 A1 n1 p1 q1 bs1 _ h6.s1 h6.r1).mono ?_
          rintro e w7 ⟨rfl, b7⟩
          have xc6 := True.intro
          have h7 := h6.next b7
          clear xc6
          try clear xa6
          try clear xd6
          try clear xx6
          try clear xy6
          have xc7 := h7.c.cell
          have xa7 := h7.a.cell
          have xd7 := h7.d.cell
          have xx7 := h7.x.cell
          have xy7 := h7.y.cell
          clear h6 b7
          clear xc7 xx7 xa7
          go_wp2_with fail
          refine (same_any k2 a2 y2 B2 A2 n2 p2 q2 bs2 _ h7.s2 h7.r2).mono ?_
          rintro e w8 ⟨rfl, b8⟩
          have t8 := Ext.trans h7.t b8
          clear h7 b8 xd7 xy7
          go_wp2
          go_ret
          exact ⟨rfl, t8⟩
    · go_loopw [17] (fun i wr => ∃ j : Nat, j ≤ N ∧ i = .int .i64 j ∧ Below w6.heap.size w6 wr) (fun i _ => N - (intOf i).toNat)
      case atStart => exact ⟨0, Nat.zero_le _, rfl, Below.refl _ _⟩
      case round =>
        obtain ⟨j, hj, rfl, bj⟩ := hrel
        by_cases hlt : j < N
        · exact absurd hlt (by omega)
        · have h6 := h5.next bj
          have xc6 := h6.c.cell
          have xa6 := h6.a.cell
          have xd6 := h6.d.cell
          have xx6 := h6.x.cell
          have xy6 := h6.y.cell
          clear xc6
          go_wp2_with fail
          refine (same_any k1 a1 y1 B1 A1 n1 p1 q1 bs1 _ h6.s1 h6.r1).mono ?_
          rintro e w7 ⟨rfl, b7⟩
          have xc6 := True.intro
          have h7 := h6.next b7
          clear xc6
          try clear xa6
          try clear xd6
          try clear xx6
          try clear xy6
          have xc7 := h7.c.cell
          have xa7 := h7.a.cell
          have xd7 := h7.d.cell
          have xx7 := h7.x.cell
          have xy7 := h7.y.cell
          clear h6 b7
          clear xc7 xx7 xa7
          go_wp2_with fail
          refine (same_any k2 a2 y2 B2 A2 n2 p2 q2 bs2 _ h7.s2 h7.r2).mono ?_
          rintro e w8 ⟨rfl, b8⟩
          have t8 := Ext.trans h7.t b8
          clear h7 b8 xd7 xy7
          go_wp2
          go_ret
          exact ⟨rfl, t8⟩
    · go_loopw [17] (fun i wr => ∃ j : Nat, j ≤ N ∧ i = .int .i64 j ∧ Below w6.heap.size w6 wr) (fun i _ => N - (intOf i).toNat)
      case atStart => exact ⟨0, Nat.zero_le _, rfl, Below.refl _ _⟩
      case round =>
        obtain ⟨j, hj, rfl, bj⟩ := hrel
        by_cases hlt : j < N
        · exact absurd hlt (by omega)
        · have h6 := h5.next bj
          have xc6 := h6.c.cell
          have xa6 := h6.a.cell
          have xd6 := h6.d.cell
          have xx6 := h6.x.cell
          have xy6 := h6.y.cell
          clear xc6
          go_wp2_with fail
          refine (same_any k1 a1 y1 B1 A1 n1 p1 q1 bs1 _ h6.s1 h6.r1).mono ?_
          rintro e w7 ⟨rfl, b7⟩
          have xc6 := True.intro
          have h7 := h6.next b7
          clear xc6
          try clear xa6
          try clear xd6
          try clear xx6
          try clear xy6
          have xc7 := h7.c.cell
          have xa7 := h7.a.cell
          have xd7 := h7.d.cell
          have xx7 := h7.x.cell
          have xy7 := h7.y.cell
          clear h6 b7
          clear xc7 xx7 xa7
          go_wp2_with fail
          refine (same_any k2 a2 y2 B2 A2 n2 p2 q2 bs2 _ h7.s2 h7.r2).mono ?_
          rintro e w8 ⟨rfl, b8⟩
          have t8 := Ext.trans h7.t b8
          clear h7 b8 xd7 xy7
          go_wp2
          go_ret
          exact ⟨rfl, t8⟩
    · go_loopw [17] (fun i wr => ∃ j : Nat, j ≤ N ∧ i = .int .i64 j ∧ Below w6.heap.size w6 wr) (fun i _ => N - (intOf i).toNat)
      case atStart => exact ⟨0, Nat.zero_le _, rfl, Below.refl _ _⟩
      case round =>
        obtain ⟨j, hj, rfl, bj⟩ := hrel
        by_cases hlt : j < N
        · have hcc := hc1 j hlt
          have qj := (bj.cell (p := ⟨bb1, oo1 + j, none⟩) (block_lt_of_cell hcc)).trans hcc
          have hcc2 := hc2 j hlt
          have qj2 := (bj.cell (p := ⟨bb2, oo2 + j, none⟩) (block_lt_of_cell hcc2)).trans hcc2
          have hji : (j : Int) < (N : Int) := by omega
          have hj0 : 0 ≤ (j : Int) := by omega
          clear hcc hcc2
          go_wp2_with fail
          go_quiet (fail)
          have bq := below_drewN' bj nq
          clear qj qj2
          go_wp2
          go_roundw
          case rel => exact ⟨j + 1, by omega, by go_num, bq⟩
          case measure => simp [intOf]; omega
        · have h6 := h5.next bj
          have xc6 := h6.c.cell
          have xa6 := h6.a.cell
          have xd6 := h6.d.cell
          have xx6 := h6.x.cell
          have xy6 := h6.y.cell
          clear xc6
          go_wp2_with fail
          refine (same_any k1 a1 y1 B1 A1 n1 p1 q1 bs1 _ h6.s1 h6.r1).mono ?_
          rintro e w7 ⟨rfl, b7⟩
          have xc6 := True.intro
          have h7 := h6.next b7
          clear xc6
          try clear xa6
          try clear xd6
          try clear xx6
          try clear xy6
          have xc7 := h7.c.cell
          have xa7 := h7.a.cell
          have xd7 := h7.d.cell
          have xx7 := h7.x.cell
          have xy7 := h7.y.cell
          clear h6 b7
          clear xc7 xx7 xa7
          go_wp2_with fail
          refine (same_any k2 a2 y2 B2 A2 n2 p2 q2 bs2 _ h7.s2 h7.r2).mono ?_
          rintro e w8 ⟨rfl, b8⟩
          have t8 := Ext.trans h7.t b8
          clear h7 b8 xd7 xy7
          go_wp2
          go_ret
          exact ⟨rfl, t8⟩

theorem blk_0 {x : Cfg} {k a y : Int} {n : Nat} (h : askCode x k a y n = 0) : 0 ≤ y ∧ y ≤ 8 := (askCode_0 h).2.2.2.1
def blkN (x : Cfg) (k a y : Int) (n : Nat) : Nat := if askCode x k a y n = 0 then y.toNat else 0
theorem blkN_le (x : Cfg) (k a y : Int) (n : Nat) : blkN x k a y n ≤ 8 := by
  unfold blkN
  split
  · rename_i h
    have := blk_0 h
    omega
  · omega
theorem sblocks_all (x : Cfg) (k a y : Int) (A : Option Addr) (n q : Nat) (w : World) :
    Calls Try.prog 14 #[x.val, .agg #[.int .u8 k, .int .i64 a, .int .i64 y, .slice A n q]] w fun e w' => ∃ P c, e = .returned (.tuple #[.slice P (blkN x k a y n) c, .int .i64 (askCode x k a y n)]) ∧ Rd w' P (seqI a (blkN x k a y n)) ∧ Below w.heap.size w w' := by
  have c1 := scheck_all x k a y A n q
  unfold blkN
  by_cases e1 : askCode x k a y n = 0
  · rw [if_pos e1, e1]
    rw [e1] at c1
    obtain ⟨_, _, _, u1, v1, _⟩ := askCode_0 e1
    refine (sblocks_ok x k a y A n q u1 v1 c1 w).mono ?_
    rintro e w' ⟨v, rfl, o, b⟩
    obtain ⟨P, c, rfl, _, r⟩ := own_rd o
    exact ⟨P, c, rfl, r, b⟩
  · rw [if_neg e1]
    refine (sblocks_err x k a y A n q _ (askCode_ne _ _ _ _ _ e1) c1 w).mono ?_
    rintro e w' ⟨rfl, b⟩
    exact ⟨none, 0, rfl, .inl rfl, b⟩
theorem rblk_all (x : Cfg) (k a y : Int) (A : Option Addr) (n q : Nat) (w : World) :
    Calls Try.prog 17 #[x.val, .agg #[.int .u8 k, .int .i64 a, .int .i64 y, .slice A n q]] w fun e w' => ∃ P c, e = .returned (.tuple #[.slice P (blkN x k a y n) c, .int .i64 (askCode x k a y n)]) ∧ Rd w' P (seqI a (blkN x k a y n)) ∧ Below w.heap.size w w' := by
  have c1 := rcheck_all x k a y A n q
  unfold blkN
  by_cases e1 : askCode x k a y n = 0
  · rw [if_pos e1, e1]
    rw [e1] at c1
    obtain ⟨_, _, _, u1, v1, _⟩ := askCode_0 e1
    refine (rblk_ok x k a y A n q u1 v1 c1 w).mono ?_
    rintro e w' ⟨v, rfl, o, b⟩
    obtain ⟨P, c, rfl, _, r⟩ := own_rd o
    exact ⟨P, c, rfl, r, b⟩
  · rw [if_neg e1]
    refine (rblk_err x k a y A n q _ (askCode_ne _ _ _ _ _ e1) c1 w).mono ?_
    rintro e w' ⟨rfl, b⟩
    exact ⟨none, 0, rfl, .inl rfl, b⟩

set_option maxRecDepth 100000 in
theorem tells_long (x : Cfg) (k1 a1 y1 k2 a2 y2 : Int) (A1 A2 : Option Addr) (n1 q1 n2 q2 : Nat) (hn : 5000 < n1 ∨ (n1 ≤ 5000 ∧ 5000 < n2)) (w : World) : Calls Try.prog 6 #[x.val, .agg #[.int .u8 k1, .int .i64 a1, .int .i64 y1, .slice A1 n1 q1], .agg #[.int .u8 k2, .int .i64 a2, .int .i64 y2, .slice A2 n2 q2]] w fun e w' => e = .returned (.bool true) ∧ Below w.heap.size w w' := by
  obtain ⟨id, m, c, r, l, h⟩ := x
  unfold Cfg.val at *
  dsimp only at *
  have C0 := BoxOf.alloc (BoxOf.alloc (BoxOf.new w #[.int .u32 (id : Int), .int .i64 m, .int .i64 c, .int .i64 r, .int .i64 l, .int .i64 h] 24) (.cells #[.int .u8 k1, .int .i64 a1, .int .i64 y1, .slice A1 n1 q1] 32)) (.cells #[.int .u8 k2, .int .i64 a2, .int .i64 y2, .slice A2 n2 q2] 32)
  have A0 := BoxOf.alloc (BoxOf.new' (w.alloc (.cells #[.int .u32 (id : Int), .int .i64 m, .int .i64 c, .int .i64 r, .int .i64 l, .int .i64 h] 24)) (w.heap.size + 1) #[.int .u8 k1, .int .i64 a1, .int .i64 y1, .slice A1 n1 q1] 32 (by simp)) (.cells #[.int .u8 k2, .int .i64 a2, .int .i64 y2, .slice A2 n2 q2] 32)
  have D0 := BoxOf.new' ((w.alloc (.cells #[.int .u32 (id : Int), .int .i64 m, .int .i64 c, .int .i64 r, .int .i64 l, .int .i64 h] 24)).alloc (.cells #[.int .u8 k1, .int .i64 a1, .int .i64 y1, .slice A1 n1 q1] 32)) (w.heap.size + 2) #[.int .u8 k2, .int .i64 a2, .int .i64 y2, .slice A2 n2 q2] 32 (by simp)
  have t0 := Ext.alloc (Ext.alloc (Ext.alloc (Below.refl w.heap.size w) (.cells #[.int .u32 (id : Int), .int .i64 m, .int .i64 c, .int .i64 r, .int .i64 l, .int .i64 h] 24)) (.cells #[.int .u8 k1, .int .i64 a1, .int .i64 y1, .slice A1 n1 q1] 32)) (.cells #[.int .u8 k2, .int .i64 a2, .int .i64 y2, .slice A2 n2 q2] 32)
  have x0 := C0.cell
  clear C0 A0 D0 x0
  rcases hn with hn | ⟨hn, hn'⟩
  · have hi1 : decide (5000 < (n1 : Int)) = true := decide_eq_true (by omega)
    go_enter Try.func6, Try.ntmps6
    go_wp2
    go_ret
    exact ⟨rfl, t0⟩
  · have hi1 : decide (5000 < (n1 : Int)) = false := decide_eq_false (by omega)
    have hi2 : decide (5000 < (n2 : Int)) = true := decide_eq_true (by omega)
    go_enter Try.func6, Try.ntmps6
    go_wp2
    go_ret
    exact ⟨rfl, t0⟩

theorem splitTells_walk (w : World) (cs : List Value) (y : (Ty.st (.prod .u32 (.prod .int (.prod .int (.prod .int (.prod .int (.prod .int .unit))))))).T) (h0 : Reads w (Ty.st (.prod .u32 (.prod .int (.prod .int (.prod .int (.prod .int (.prod .int .unit))))))) y cs) (ds : List Value) (z : (Ty.st (.prod .byte (.prod .int (.prod .int (.prod (.sl .byte) .unit))))).T) (h1 : Reads w (Ty.st (.prod .byte (.prod .int (.prod .int (.prod (.sl .byte) .unit))))) z ds) (es : List Value) (u : (Ty.st (.prod .byte (.prod .int (.prod .int (.prod (.sl .byte) .unit))))).T) (h2 : Reads w (Ty.st (.prod .byte (.prod .int (.prod .int (.prod (.sl .byte) .unit))))) u es) :
    Calls Try.prog 6 #[.agg cs.toArray, .agg ds.toArray, .agg es.toArray] w fun e w' => e = .returned (.bool true) ∧ Below w.heap.size w w' := by
  obtain ⟨x, hx, _⟩ := cfg_open h0
  obtain ⟨k1, a1, y1, A1, bs1, q1, hv1, _, _, _, _, _, r1⟩ := ask_open h1
  obtain ⟨k2, a2, y2, A2, bs2, q2, hv2, _, _, _, _, _, r2⟩ := ask_open h2
  rw [hx, hv1, hv2]
  generalize bs1.length = n1 at *
  generalize bs2.length = n2 at *
  rcases (show (5000 < n1 ∨ (n1 ≤ 5000 ∧ 5000 < n2)) ∨ (n1 ≤ 5000 ∧ n2 ≤ 5000) by omega) with h | ⟨hn1, hn2⟩
  · exact tells_long x k1 a1 y1 k2 a2 y2 A1 A2 n1 q1 n2 q2 h w
  · exact tells_ok x k1 a1 y1 k2 a2 y2 A1 A2 n1 q1 n2 q2 bs1 bs2 hn1 hn2 _ (blkN_le x k1 a1 y1 n1) _ _ _ (fun A q W => sblocks_all x k1 a1 y1 A n1 q W) (fun A q W => rblk_all x k1 a1 y1 A n1 q W)
      (fun A q B p W => stouch_any x k1 a1 y1 k2 a2 y2 A B n1 q n2 p W) (fun A q B p W => rtouch_any x k1 a1 y1 k2 a2 y2 A B n1 q n2 p W) (fun A q W => scheck_all x k1 a1 y1 A n1 q W) (fun A q W => rcheck_all x k1 a1 y1 A n1 q W) w r1 r2
end Go.Proofs.Ytmoaflnggcbhkaa
