/- Layer 9 (label): what is refused: the statement. -/
import Derived.Test.YtiomgjfiiibllaaLabelLaws
import Derived.Deep.DeepCutAuto
namespace Go.Proofs.Ytiomgjfiiibllaa
open Go Go.RowKit
set_option linter.unusedSimpArgs false
set_option linter.unusedVariables false

set_option maxRecDepth 100000 in
set_option maxHeartbeats 1000000 in
theorem lbounds_bad (id ev : Nat) (m c r l me lost dn a1 a2 a3 : Int) (op : Bool)
    (h1 : ∀ W, Calls Try.prog 12 #[.agg #[.int .u32 (id : Int), .int .u32 (ev : Int), .int .i64 m, .int .i64 c, .int .i64 r, .int .i64 l, .int .i64 0, .int .i64 (-1), .int .i64 0, .bool op]] W fun e w' => e = .returned (.int .i64 8) ∧ Below W.heap.size W w') (w : World) : Calls Try.prog 9 #[.agg #[.int .u32 (id : Int), .int .u32 (ev : Int), .int .i64 m, .int .i64 c, .int .i64 r, .int .i64 l, .int .i64 me, .int .i64 lost, .int .i64 dn, .bool op], .int .i64 a1, .int .i64 a2, .int .i64 a3] w fun e w' => e = .returned (.bool true) ∧ Below w.heap.size w w' := by
  have H1 := Lib.hid h1
  clear h1
  go_enter Try.func9, Try.ntmps9
  go_wp2_with fail
  have A0 := BoxOf.new w #[.int .u32 (id : Int), .int .u32 (ev : Int), .int .i64 m, .int .i64 c, .int .i64 r, .int .i64 l, .int .i64 me, .int .i64 lost, .int .i64 dn, .bool op] 24
  have t0 := Ext.alloc (Below.refl w.heap.size w) (.cells #[.int .u32 (id : Int), .int .u32 (ev : Int), .int .i64 m, .int .i64 c, .int .i64 r, .int .i64 l, .int .i64 me, .int .i64 lost, .int .i64 dn, .bool op] 24)
  refine (lalive_any _).mono ?_
  rintro e w1 ⟨rfl, b1⟩
  have A1 := A0.next b1
  have t1 := Ext.trans t0 b1
  have x1 := A1.cell
  have f1 := A1.free
  clear A0 t0 b1
  go_upto_region 3 with fail
  have A2 : BoxOf _ _ #[.int .u32 (id : Int), .int .u32 (ev : Int), .int .i64 m, .int .i64 c, .int .i64 r, .int .i64 l, .int .i64 0, .int .i64 (-1), .int .i64 0, .bool op] 24 := ((A1.setAt 6 (.int .i64 0)).setAt 7 (.int .i64 (-1))).setAt 8 (.int .i64 0)
  have t2 := Below.setCell (p := ⟨w.heap.size, 8, none⟩) (Below.setCell (p := ⟨w.heap.size, 7, none⟩) (Below.setCell (p := ⟨w.heap.size, 6, none⟩) t1 (Nat.le_refl _) (.int .i64 0)) (Nat.le_refl _) (.int .i64 (-1))) (Nat.le_refl _) (.int .i64 0)
  generalize ((w1.setCell ⟨w.heap.size, 6, none⟩ (.int .i64 0)).setCell ⟨w.heap.size, 7, none⟩ (.int .i64 (-1))).setCell ⟨w.heap.size, 8, none⟩ (.int .i64 0) = w2 at *
  have x2 := A2.cell
  clear A1 t1 x1 f1
  go_wp2_with fail
  refine (H1.out _).mono ?_
  rintro e w3 ⟨rfl, b3⟩
  have t3 := Ext.trans t2 b3
  clear A2 x2 t2 b3
  go_wp2
  go_ret
  exact ⟨rfl, t3⟩

set_option maxRecDepth 100000 in
set_option maxHeartbeats 8000000 in
theorem lbounds_ok (id ev : Nat) (m c r l me lost dn a1 a2 a3 : Int) (op : Bool) (cx cy cz : Int) (bx by' bz : Bool)
    (h1 : ∀ W, Calls Try.prog 12 #[.agg #[.int .u32 (id : Int), .int .u32 (ev : Int), .int .i64 m, .int .i64 c, .int .i64 r, .int .i64 l, .int .i64 0, .int .i64 (-1), .int .i64 0, .bool op]] W fun e w' => e = .returned (.int .i64 0) ∧ Below W.heap.size W w')
    (h2 : ∀ W, Calls Try.prog 12 #[.agg #[.int .u32 (id : Int), .int .u32 (ev : Int), .int .i64 m, .int .i64 c, .int .i64 r, .int .i64 l, .int .i64 a1, .int .i64 (-1), .int .i64 0, .bool op]] W fun e w' => e = .returned (.int .i64 cx) ∧ Below W.heap.size W w')
    (h3 : ∀ W, Calls Try.prog 12 #[.agg #[.int .u32 (id : Int), .int .u32 (ev : Int), .int .i64 m, .int .i64 c, .int .i64 r, .int .i64 l, .int .i64 0, .int .i64 a2, .int .i64 0, .bool op]] W fun e w' => e = .returned (.int .i64 cy) ∧ Below W.heap.size W w')
    (h4 : ∀ W, Calls Try.prog 12 #[.agg #[.int .u32 (id : Int), .int .u32 (ev : Int), .int .i64 m, .int .i64 c, .int .i64 r, .int .i64 l, .int .i64 0, .int .i64 0, .int .i64 a3, .bool op]] W fun e w' => e = .returned (.int .i64 cz) ∧ Below W.heap.size W w')
    (hcx : (cx == 0) = bx) (hcy : (cy == 0) = by') (hcz : (cz == 0) = bz)
    (hx : (decide (0 ≤ a1) = true ∧ decide (a1 < m) = true ∧ bx = true) ∨ (decide (0 ≤ a1) = false ∧ bx = false) ∨ (decide (0 ≤ a1) = true ∧ decide (a1 < m) = false ∧ bx = false))
    (hy : (decide (-1 ≤ a2) = true ∧ decide (a2 < m) = true ∧ by' = true) ∨ (decide (-1 ≤ a2) = false ∧ by' = false) ∨ (decide (-1 ≤ a2) = true ∧ decide (a2 < m) = false ∧ by' = false))
    (hz : (decide (0 ≤ a3) = true ∧ decide (a3 ≤ c * r) = true ∧ bz = true) ∨ (decide (0 ≤ a3) = false ∧ bz = false) ∨ (decide (0 ≤ a3) = true ∧ decide (a3 ≤ c * r) = false ∧ bz = false))
    (hcr : IntKind.i64.wrap (c * r) = c * r) (w : World) : Calls Try.prog 9 #[.agg #[.int .u32 (id : Int), .int .u32 (ev : Int), .int .i64 m, .int .i64 c, .int .i64 r, .int .i64 l, .int .i64 me, .int .i64 lost, .int .i64 dn, .bool op], .int .i64 a1, .int .i64 a2, .int .i64 a3] w fun e w' => e = .returned (.bool true) ∧ Below w.heap.size w w' := by
  have H1 := Lib.hid h1
  have H2 := Lib.hid h2
  have H3 := Lib.hid h3
  have H4 := Lib.hid h4
  have HX := Lib.hid hx
  have HY := Lib.hid hy
  have HZ := Lib.hid hz
  have HCX := Lib.hid hcx
  have HCY := Lib.hid hcy
  have HCZ := Lib.hid hcz
  have HCR := Lib.hid hcr
  clear h1 h2 h3 h4 hx hy hz hcx hcy hcz hcr
  go_enter Try.func9, Try.ntmps9
  go_wp2_with fail
  have A0 := BoxOf.new w #[.int .u32 (id : Int), .int .u32 (ev : Int), .int .i64 m, .int .i64 c, .int .i64 r, .int .i64 l, .int .i64 me, .int .i64 lost, .int .i64 dn, .bool op] 24
  have t0 := Ext.alloc (Below.refl w.heap.size w) (.cells #[.int .u32 (id : Int), .int .u32 (ev : Int), .int .i64 m, .int .i64 c, .int .i64 r, .int .i64 l, .int .i64 me, .int .i64 lost, .int .i64 dn, .bool op] 24)
  refine (lalive_any _).mono ?_
  rintro e w1 ⟨rfl, b1⟩
  have A1 := A0.next b1
  have t1 := Ext.trans t0 b1
  have x1 := A1.cell
  have f1 := A1.free
  clear A0 t0 b1
  go_upto_region 3 with fail
  have A2 : BoxOf _ _ #[.int .u32 (id : Int), .int .u32 (ev : Int), .int .i64 m, .int .i64 c, .int .i64 r, .int .i64 l, .int .i64 0, .int .i64 (-1), .int .i64 0, .bool op] 24 := ((A1.setAt 6 (.int .i64 0)).setAt 7 (.int .i64 (-1))).setAt 8 (.int .i64 0)
  have t2 := Below.setCell (p := ⟨w.heap.size, 8, none⟩) (Below.setCell (p := ⟨w.heap.size, 7, none⟩) (Below.setCell (p := ⟨w.heap.size, 6, none⟩) t1 (Nat.le_refl _) (.int .i64 0)) (Nat.le_refl _) (.int .i64 (-1))) (Nat.le_refl _) (.int .i64 0)
  generalize ((w1.setCell ⟨w.heap.size, 6, none⟩ (.int .i64 0)).setCell ⟨w.heap.size, 7, none⟩ (.int .i64 (-1))).setCell ⟨w.heap.size, 8, none⟩ (.int .i64 0) = w2 at *
  have x2 := A2.cell
  clear A1 t1 x1 f1
  go_wp2_with fail
  refine (H1.out _).mono ?_
  rintro e w3 ⟨rfl, b3⟩
  have A3 := A2.next b3
  have t3 := Ext.trans t2 b3
  clear A2 x2 t2 b3
  go_upto_region 5 with fail
  go_cut [10, 11, 12] (fun s10 s11 s12 wx => ∃ gx gy gz : Nat, s10 = .pointer (some ⟨gx, 0, none⟩) ∧ s11 = .pointer (some ⟨gy, 0, none⟩) ∧ s12 = .pointer (some ⟨gz, 0, none⟩) ∧ (gx ≠ gy ∧ gx ≠ gz ∧ gy ≠ gz ∧ w.heap.size < gx ∧ w.heap.size < gy ∧ w.heap.size < gz) ∧ BoxOf wx gx #[.int .u32 (id : Int), .int .u32 (ev : Int), .int .i64 m, .int .i64 c, .int .i64 r, .int .i64 l, .int .i64 0, .int .i64 (-1), .int .i64 0, .bool op] 24 ∧ BoxOf wx gy #[.int .u32 (id : Int), .int .u32 (ev : Int), .int .i64 m, .int .i64 c, .int .i64 r, .int .i64 l, .int .i64 0, .int .i64 (-1), .int .i64 0, .bool op] 24 ∧ BoxOf wx gz #[.int .u32 (id : Int), .int .u32 (ev : Int), .int .i64 m, .int .i64 c, .int .i64 r, .int .i64 l, .int .i64 0, .int .i64 (-1), .int .i64 0, .bool op] 24 ∧ BoxOf wx w.heap.size #[.int .u32 (id : Int), .int .u32 (ev : Int), .int .i64 m, .int .i64 c, .int .i64 r, .int .i64 l, .int .i64 0, .int .i64 (-1), .int .i64 0, .bool op] 24 ∧ Below w.heap.size w wx)
  case first =>
    refine wp_region_held_drew (S := fun w' => Below w.heap.size w w' ∧ BoxOf w' w.heap.size #[.int .u32 (id : Int), .int .u32 (ev : Int), .int .i64 m, .int .i64 c, .int .i64 r, .int .i64 l, .int .i64 0, .int .i64 (-1), .int .i64 0, .bool op] 24 ∧ ∀ o, w'.cell? ⟨w.heap.size, o, none⟩ = #[.int .u32 (id : Int), .int .u32 (ev : Int), .int .i64 m, .int .i64 c, .int .i64 r, .int .i64 l, .int .i64 0, .int .i64 (-1), .int .i64 0, .bool op].toList[o]?) (by kernel_rfl) ⟨Ext.drew t3, A3.drew, A3.drew.cell⟩ (fun hS => ?_)
    clear A3 t3
    generalize w3.drew = v at hS ⊢
    refine wpAnyH_take (i := 0) (oi := _) (v := ?_) rfl (by kernel_rfl) (by kernel_rfl) (by kernel_rfl) (fun _ _ _ h => h) (Or.inl ⟨by rfl, ?_⟩) hS ?_
    rotate_left
    · (intro w hSw; (try dsimp only at hSw); go_simp; (try with_reducible rfl))
    rotate_left
    simp only [Act.put, List.getElem_toArray, List.getElem_cons_zero, List.getElem_cons_succ, List.setIfInBounds_toArray, List.set_cons_zero, List.set_cons_succ]
    refine wpAnyH_take (i := 1) (oi := _) (v := ?_) rfl (by kernel_rfl) (by kernel_rfl) (by kernel_rfl) (fun _ _ _ h => h) (Or.inl ⟨by rfl, ?_⟩) hS ?_
    rotate_left
    · (intro w hSw; (try dsimp only at hSw); go_simp; (try with_reducible rfl))
    rotate_left
    simp only [Act.put, List.getElem_toArray, List.getElem_cons_zero, List.getElem_cons_succ, List.setIfInBounds_toArray, List.set_cons_zero, List.set_cons_succ]
    refine wpAnyH_take (i := 2) (oi := _) (v := ?_) rfl (by kernel_rfl) (by kernel_rfl) (by kernel_rfl) (fun _ _ _ h => h) (Or.inl ⟨by rfl, ?_⟩) hS ?_
    rotate_left
    · (intro w hSw; (try dsimp only at hSw); go_simp; (try with_reducible rfl))
    rotate_left
    simp only [Act.put, List.getElem_toArray, List.getElem_cons_zero, List.getElem_cons_succ, List.setIfInBounds_toArray, List.set_cons_zero, List.set_cons_succ]
    refine wpAnyH_ready (rs := [3, 4, 5]) (by kernel_rfl) (by simp) ?_
    refine AllReadyH.cons rfl (fun K hK => ?_) (AllReadyH.cons rfl (fun K hK => ?_) (AllReadyH.cons rfl (fun K hK => ?_) (AllReadyH.nil)))
    · rw [if_pos (by rfl)]
      go_simp
      obtain ⟨g3, hg3⟩ : ∃ g : Nat, g = v.heap.size := ⟨_, rfl⟩
      have B3 := BoxOf.new' v g3 #[.int .u32 0, .int .u32 0, .int .i64 0, .int .i64 0, .int .i64 0, .int .i64 0, .int .i64 0, .int .i64 0, .int .i64 0, .bool false] 24 hg3
      have hw3 : w.heap.size < g3 := by rw [hg3]; exact hS.2.1.lt
      refine hK.out _ _ ⟨Ext.alloc hS.1 _, hS.2.1.alloc _, (hS.2.1.alloc (.cells #[.int .u32 0, .int .u32 0, .int .i64 0, .int .i64 0, .int .i64 0, .int .i64 0, .int .i64 0, .int .i64 0, .int .i64 0, .bool false] 24)).cell⟩ (fun hS' => ?_)
      rw [← hg3]
      clear hg3 hK K hS
      have hS := hS'
      clear hS'
      generalize v.alloc (.cells #[.int .u32 0, .int .u32 0, .int .i64 0, .int .i64 0, .int .i64 0, .int .i64 0, .int .i64 0, .int .i64 0, .int .i64 0, .bool false] 24) = u1 at *
      try simp only [Act.put, List.getElem_toArray, List.getElem_cons_zero, List.getElem_cons_succ, List.setIfInBounds_toArray, List.set_cons_zero, List.set_cons_succ]
      refine wpAnyH_ready (rs := [4, 5]) (by kernel_rfl) (by simp) ?_
      refine AllReadyH.cons rfl (fun K hK => ?_) (AllReadyH.cons rfl (fun K hK => ?_) (AllReadyH.nil))
      · rw [if_pos (by rfl)]
        go_simp
        obtain ⟨g4, hg4⟩ : ∃ g : Nat, g = u1.heap.size := ⟨_, rfl⟩
        have B4 := BoxOf.new' u1 g4 #[.int .u32 0, .int .u32 0, .int .i64 0, .int .i64 0, .int .i64 0, .int .i64 0, .int .i64 0, .int .i64 0, .int .i64 0, .bool false] 24 hg4
        have hw4 : w.heap.size < g4 := by rw [hg4]; exact hS.2.1.lt
        have h34 : g3 < g4 := by rw [hg4]; exact B3.lt
        have B3' := B3.alloc (.cells #[.int .u32 0, .int .u32 0, .int .i64 0, .int .i64 0, .int .i64 0, .int .i64 0, .int .i64 0, .int .i64 0, .int .i64 0, .bool false] 24)
        clear B3
        have B3 := B3'
        clear B3'
        refine hK.out _ _ ⟨Ext.alloc hS.1 _, hS.2.1.alloc _, (hS.2.1.alloc (.cells #[.int .u32 0, .int .u32 0, .int .i64 0, .int .i64 0, .int .i64 0, .int .i64 0, .int .i64 0, .int .i64 0, .int .i64 0, .bool false] 24)).cell⟩ (fun hS' => ?_)
        rw [← hg4]
        clear hg4 hK K hS
        have hS := hS'
        clear hS'
        generalize u1.alloc (.cells #[.int .u32 0, .int .u32 0, .int .i64 0, .int .i64 0, .int .i64 0, .int .i64 0, .int .i64 0, .int .i64 0, .int .i64 0, .bool false] 24) = u2 at *
        try simp only [Act.put, List.getElem_toArray, List.getElem_cons_zero, List.getElem_cons_succ, List.setIfInBounds_toArray, List.set_cons_zero, List.set_cons_succ]
        refine wpAnyH_ready (rs := [5]) (by kernel_rfl) (by simp) ?_
        refine AllReadyH.cons rfl (fun K hK => ?_) AllReadyH.nil
        rw [if_pos (by rfl)]
        go_simp
        obtain ⟨g5, hg5⟩ : ∃ g : Nat, g = u2.heap.size := ⟨_, rfl⟩
        have B5 := BoxOf.new' u2 g5 #[.int .u32 0, .int .u32 0, .int .i64 0, .int .i64 0, .int .i64 0, .int .i64 0, .int .i64 0, .int .i64 0, .int .i64 0, .bool false] 24 hg5
        have hw5 : w.heap.size < g5 := by rw [hg5]; exact hS.2.1.lt
        have h35 : g3 < g5 := by rw [hg5]; exact B3.lt
        have B3' := B3.alloc (.cells #[.int .u32 0, .int .u32 0, .int .i64 0, .int .i64 0, .int .i64 0, .int .i64 0, .int .i64 0, .int .i64 0, .int .i64 0, .bool false] 24)
        clear B3
        have B3 := B3'
        clear B3'
        have h45 : g4 < g5 := by rw [hg5]; exact B4.lt
        have B4' := B4.alloc (.cells #[.int .u32 0, .int .u32 0, .int .i64 0, .int .i64 0, .int .i64 0, .int .i64 0, .int .i64 0, .int .i64 0, .int .i64 0, .bool false] 24)
        clear B4
        have B4 := B4'
        clear B4'
        refine hK.out _ _ ⟨Ext.alloc hS.1 _, hS.2.1.alloc _, (hS.2.1.alloc (.cells #[.int .u32 0, .int .u32 0, .int .i64 0, .int .i64 0, .int .i64 0, .int .i64 0, .int .i64 0, .int .i64 0, .int .i64 0, .bool false] 24)).cell⟩ (fun hS' => ?_)
        rw [← hg5]
        clear hg5 hK K hS
        have hS := hS'
        clear hS'
        generalize u2.alloc (.cells #[.int .u32 0, .int .u32 0, .int .i64 0, .int .i64 0, .int .i64 0, .int .i64 0, .int .i64 0, .int .i64 0, .int .i64 0, .bool false] 24) = u3 at *
        try simp only [Act.put, List.getElem_toArray, List.getElem_cons_zero, List.getElem_cons_succ, List.setIfInBounds_toArray, List.set_cons_zero, List.set_cons_succ]
        refine wpAnyH_ready (rs := [6]) (by kernel_rfl) (by simp) ?_
        refine AllReadyH.cons rfl (fun K hK => ?_) AllReadyH.nil
        rw [if_pos (by rfl)]
        refine wp_store_row 24 (.tmp 10) (.tmp 24) rfl g3 #[.int .u32 (id : Int), .int .u32 (ev : Int), .int .i64 m, .int .i64 c, .int .i64 r, .int .i64 l, .int .i64 0, .int .i64 (-1), .int .i64 0, .bool op] rfl rfl 24 #[.int .u32 0, .int .u32 0, .int .i64 0, .int .i64 0, .int .i64 0, .int .i64 0, .int .i64 0, .int .i64 0, .int .i64 0, .bool false] B3 (by kernel_rfl) rfl (by kernel_rfl) ?_
        have C3 := B3.set #[.int .u32 (id : Int), .int .u32 (ev : Int), .int .i64 m, .int .i64 c, .int .i64 r, .int .i64 l, .int .i64 0, .int .i64 (-1), .int .i64 0, .bool op]
        have D4 := B4.other (show g4 ≠ g3 by omega) #[.int .u32 (id : Int), .int .u32 (ev : Int), .int .i64 m, .int .i64 c, .int .i64 r, .int .i64 l, .int .i64 0, .int .i64 (-1), .int .i64 0, .bool op]
        clear B4
        have B4 := D4
        clear D4
        have D5 := B5.other (show g5 ≠ g3 by omega) #[.int .u32 (id : Int), .int .u32 (ev : Int), .int .i64 m, .int .i64 c, .int .i64 r, .int .i64 l, .int .i64 0, .int .i64 (-1), .int .i64 0, .bool op]
        clear B5
        have B5 := D5
        clear D5
        refine hK.out _ _ ⟨Ext.setRow hS.1 (by omega) _, hS.2.1.other (by omega) _, (hS.2.1.other (show w.heap.size ≠ g3 by omega) #[.int .u32 (id : Int), .int .u32 (ev : Int), .int .i64 m, .int .i64 c, .int .i64 r, .int .i64 l, .int .i64 0, .int .i64 (-1), .int .i64 0, .bool op]).cell⟩ (fun hS' => ?_)
        clear hK K hS
        have hS := hS'
        clear hS'
        try simp only [Act.put, List.getElem_toArray, List.getElem_cons_zero, List.getElem_cons_succ, List.setIfInBounds_toArray, List.set_cons_zero, List.set_cons_succ]
        refine wpAnyH_ready (rs := [7]) (by kernel_rfl) (by simp) ?_
        refine AllReadyH.cons rfl (fun K hK => ?_) AllReadyH.nil
        rw [if_pos (by rfl)]
        refine wp_store_row 24 (.tmp 11) (.tmp 25) rfl g4 #[.int .u32 (id : Int), .int .u32 (ev : Int), .int .i64 m, .int .i64 c, .int .i64 r, .int .i64 l, .int .i64 0, .int .i64 (-1), .int .i64 0, .bool op] rfl rfl 24 #[.int .u32 0, .int .u32 0, .int .i64 0, .int .i64 0, .int .i64 0, .int .i64 0, .int .i64 0, .int .i64 0, .int .i64 0, .bool false] B4 (by kernel_rfl) rfl (by kernel_rfl) ?_
        have C4 := B4.set #[.int .u32 (id : Int), .int .u32 (ev : Int), .int .i64 m, .int .i64 c, .int .i64 r, .int .i64 l, .int .i64 0, .int .i64 (-1), .int .i64 0, .bool op]
        have D3 := C3.other (show g3 ≠ g4 by omega) #[.int .u32 (id : Int), .int .u32 (ev : Int), .int .i64 m, .int .i64 c, .int .i64 r, .int .i64 l, .int .i64 0, .int .i64 (-1), .int .i64 0, .bool op]
        clear C3
        have C3 := D3
        clear D3
        have D5 := B5.other (show g5 ≠ g4 by omega) #[.int .u32 (id : Int), .int .u32 (ev : Int), .int .i64 m, .int .i64 c, .int .i64 r, .int .i64 l, .int .i64 0, .int .i64 (-1), .int .i64 0, .bool op]
        clear B5
        have B5 := D5
        clear D5
        refine hK.out _ _ ⟨Ext.setRow hS.1 (by omega) _, hS.2.1.other (by omega) _, (hS.2.1.other (show w.heap.size ≠ g4 by omega) #[.int .u32 (id : Int), .int .u32 (ev : Int), .int .i64 m, .int .i64 c, .int .i64 r, .int .i64 l, .int .i64 0, .int .i64 (-1), .int .i64 0, .bool op]).cell⟩ (fun hS' => ?_)
        clear hK K hS
        have hS := hS'
        clear hS'
        try simp only [Act.put, List.getElem_toArray, List.getElem_cons_zero, List.getElem_cons_succ, List.setIfInBounds_toArray, List.set_cons_zero, List.set_cons_succ]
        refine wpAnyH_ready (rs := [8]) (by kernel_rfl) (by simp) ?_
        refine AllReadyH.cons rfl (fun K hK => ?_) AllReadyH.nil
        rw [if_pos (by rfl)]
        refine wp_store_row 24 (.tmp 12) (.tmp 26) rfl g5 #[.int .u32 (id : Int), .int .u32 (ev : Int), .int .i64 m, .int .i64 c, .int .i64 r, .int .i64 l, .int .i64 0, .int .i64 (-1), .int .i64 0, .bool op] rfl rfl 24 #[.int .u32 0, .int .u32 0, .int .i64 0, .int .i64 0, .int .i64 0, .int .i64 0, .int .i64 0, .int .i64 0, .int .i64 0, .bool false] B5 (by kernel_rfl) rfl (by kernel_rfl) ?_
        have C5 := B5.set #[.int .u32 (id : Int), .int .u32 (ev : Int), .int .i64 m, .int .i64 c, .int .i64 r, .int .i64 l, .int .i64 0, .int .i64 (-1), .int .i64 0, .bool op]
        have D3 := C3.other (show g3 ≠ g5 by omega) #[.int .u32 (id : Int), .int .u32 (ev : Int), .int .i64 m, .int .i64 c, .int .i64 r, .int .i64 l, .int .i64 0, .int .i64 (-1), .int .i64 0, .bool op]
        clear C3
        have C3 := D3
        clear D3
        have D4 := C4.other (show g4 ≠ g5 by omega) #[.int .u32 (id : Int), .int .u32 (ev : Int), .int .i64 m, .int .i64 c, .int .i64 r, .int .i64 l, .int .i64 0, .int .i64 (-1), .int .i64 0, .bool op]
        clear C4
        have C4 := D4
        clear D4
        refine hK.out _ _ ⟨Ext.setRow hS.1 (by omega) _, hS.2.1.other (by omega) _, (hS.2.1.other (show w.heap.size ≠ g5 by omega) #[.int .u32 (id : Int), .int .u32 (ev : Int), .int .i64 m, .int .i64 c, .int .i64 r, .int .i64 l, .int .i64 0, .int .i64 (-1), .int .i64 0, .bool op]).cell⟩ (fun hS' => ?_)
        clear hK K hS
        have hS := hS'
        clear hS'
        try simp only [Act.put, List.getElem_toArray, List.getElem_cons_zero, List.getElem_cons_succ, List.setIfInBounds_toArray, List.set_cons_zero, List.set_cons_succ]
        refine wpAnyH_done (by kernel_rfl) ?_ _
        go_wp2_with fail
        go_meet
        exact ⟨g3, g4, g5, rfl, rfl, rfl, ⟨by omega, by omega, by omega, hw3, hw4, hw5⟩, C3, C4, C5, hS.2.1, hS.1⟩
      · rw [if_pos (by rfl)]
        go_simp
        obtain ⟨g5, hg5⟩ : ∃ g : Nat, g = u1.heap.size := ⟨_, rfl⟩
        have B5 := BoxOf.new' u1 g5 #[.int .u32 0, .int .u32 0, .int .i64 0, .int .i64 0, .int .i64 0, .int .i64 0, .int .i64 0, .int .i64 0, .int .i64 0, .bool false] 24 hg5
        have hw5 : w.heap.size < g5 := by rw [hg5]; exact hS.2.1.lt
        have h35 : g3 < g5 := by rw [hg5]; exact B3.lt
        have B3' := B3.alloc (.cells #[.int .u32 0, .int .u32 0, .int .i64 0, .int .i64 0, .int .i64 0, .int .i64 0, .int .i64 0, .int .i64 0, .int .i64 0, .bool false] 24)
        clear B3
        have B3 := B3'
        clear B3'
        refine hK.out _ _ ⟨Ext.alloc hS.1 _, hS.2.1.alloc _, (hS.2.1.alloc (.cells #[.int .u32 0, .int .u32 0, .int .i64 0, .int .i64 0, .int .i64 0, .int .i64 0, .int .i64 0, .int .i64 0, .int .i64 0, .bool false] 24)).cell⟩ (fun hS' => ?_)
        rw [← hg5]
        clear hg5 hK K hS
        have hS := hS'
        clear hS'
        generalize u1.alloc (.cells #[.int .u32 0, .int .u32 0, .int .i64 0, .int .i64 0, .int .i64 0, .int .i64 0, .int .i64 0, .int .i64 0, .int .i64 0, .bool false] 24) = u2 at *
        try simp only [Act.put, List.getElem_toArray, List.getElem_cons_zero, List.getElem_cons_succ, List.setIfInBounds_toArray, List.set_cons_zero, List.set_cons_succ]
        refine wpAnyH_ready (rs := [4]) (by kernel_rfl) (by simp) ?_
        refine AllReadyH.cons rfl (fun K hK => ?_) AllReadyH.nil
        rw [if_pos (by rfl)]
        go_simp
        obtain ⟨g4, hg4⟩ : ∃ g : Nat, g = u2.heap.size := ⟨_, rfl⟩
        have B4 := BoxOf.new' u2 g4 #[.int .u32 0, .int .u32 0, .int .i64 0, .int .i64 0, .int .i64 0, .int .i64 0, .int .i64 0, .int .i64 0, .int .i64 0, .bool false] 24 hg4
        have hw4 : w.heap.size < g4 := by rw [hg4]; exact hS.2.1.lt
        have h34 : g3 < g4 := by rw [hg4]; exact B3.lt
        have B3' := B3.alloc (.cells #[.int .u32 0, .int .u32 0, .int .i64 0, .int .i64 0, .int .i64 0, .int .i64 0, .int .i64 0, .int .i64 0, .int .i64 0, .bool false] 24)
        clear B3
        have B3 := B3'
        clear B3'
        have h54 : g5 < g4 := by rw [hg4]; exact B5.lt
        have B5' := B5.alloc (.cells #[.int .u32 0, .int .u32 0, .int .i64 0, .int .i64 0, .int .i64 0, .int .i64 0, .int .i64 0, .int .i64 0, .int .i64 0, .bool false] 24)
        clear B5
        have B5 := B5'
        clear B5'
        refine hK.out _ _ ⟨Ext.alloc hS.1 _, hS.2.1.alloc _, (hS.2.1.alloc (.cells #[.int .u32 0, .int .u32 0, .int .i64 0, .int .i64 0, .int .i64 0, .int .i64 0, .int .i64 0, .int .i64 0, .int .i64 0, .bool false] 24)).cell⟩ (fun hS' => ?_)
        rw [← hg4]
        clear hg4 hK K hS
        have hS := hS'
        clear hS'
        generalize u2.alloc (.cells #[.int .u32 0, .int .u32 0, .int .i64 0, .int .i64 0, .int .i64 0, .int .i64 0, .int .i64 0, .int .i64 0, .int .i64 0, .bool false] 24) = u3 at *
        try simp only [Act.put, List.getElem_toArray, List.getElem_cons_zero, List.getElem_cons_succ, List.setIfInBounds_toArray, List.set_cons_zero, List.set_cons_succ]
        refine wpAnyH_ready (rs := [6]) (by kernel_rfl) (by simp) ?_
        refine AllReadyH.cons rfl (fun K hK => ?_) AllReadyH.nil
        rw [if_pos (by rfl)]
        refine wp_store_row 24 (.tmp 10) (.tmp 24) rfl g3 #[.int .u32 (id : Int), .int .u32 (ev : Int), .int .i64 m, .int .i64 c, .int .i64 r, .int .i64 l, .int .i64 0, .int .i64 (-1), .int .i64 0, .bool op] rfl rfl 24 #[.int .u32 0, .int .u32 0, .int .i64 0, .int .i64 0, .int .i64 0, .int .i64 0, .int .i64 0, .int .i64 0, .int .i64 0, .bool false] B3 (by kernel_rfl) rfl (by kernel_rfl) ?_
        have C3 := B3.set #[.int .u32 (id : Int), .int .u32 (ev : Int), .int .i64 m, .int .i64 c, .int .i64 r, .int .i64 l, .int .i64 0, .int .i64 (-1), .int .i64 0, .bool op]
        have D4 := B4.other (show g4 ≠ g3 by omega) #[.int .u32 (id : Int), .int .u32 (ev : Int), .int .i64 m, .int .i64 c, .int .i64 r, .int .i64 l, .int .i64 0, .int .i64 (-1), .int .i64 0, .bool op]
        clear B4
        have B4 := D4
        clear D4
        have D5 := B5.other (show g5 ≠ g3 by omega) #[.int .u32 (id : Int), .int .u32 (ev : Int), .int .i64 m, .int .i64 c, .int .i64 r, .int .i64 l, .int .i64 0, .int .i64 (-1), .int .i64 0, .bool op]
        clear B5
        have B5 := D5
        clear D5
        refine hK.out _ _ ⟨Ext.setRow hS.1 (by omega) _, hS.2.1.other (by omega) _, (hS.2.1.other (show w.heap.size ≠ g3 by omega) #[.int .u32 (id : Int), .int .u32 (ev : Int), .int .i64 m, .int .i64 c, .int .i64 r, .int .i64 l, .int .i64 0, .int .i64 (-1), .int .i64 0, .bool op]).cell⟩ (fun hS' => ?_)
        clear hK K hS
        have hS := hS'
        clear hS'
        try simp only [Act.put, List.getElem_toArray, List.getElem_cons_zero, List.getElem_cons_succ, List.setIfInBounds_toArray, List.set_cons_zero, List.set_cons_succ]
        refine wpAnyH_ready (rs := [7]) (by kernel_rfl) (by simp) ?_
        refine AllReadyH.cons rfl (fun K hK => ?_) AllReadyH.nil
        rw [if_pos (by rfl)]
        refine wp_store_row 24 (.tmp 11) (.tmp 25) rfl g4 #[.int .u32 (id : Int), .int .u32 (ev : Int), .int .i64 m, .int .i64 c, .int .i64 r, .int .i64 l, .int .i64 0, .int .i64 (-1), .int .i64 0, .bool op] rfl rfl 24 #[.int .u32 0, .int .u32 0, .int .i64 0, .int .i64 0, .int .i64 0, .int .i64 0, .int .i64 0, .int .i64 0, .int .i64 0, .bool false] B4 (by kernel_rfl) rfl (by kernel_rfl) ?_
        have C4 := B4.set #[.int .u32 (id : Int), .int .u32 (ev : Int), .int .i64 m, .int .i64 c, .int .i64 r, .int .i64 l, .int .i64 0, .int .i64 (-1), .int .i64 0, .bool op]
        have D3 := C3.other (show g3 ≠ g4 by omega) #[.int .u32 (id : Int), .int .u32 (ev : Int), .int .i64 m, .int .i64 c, .int .i64 r, .int .i64 l, .int .i64 0, .int .i64 (-1), .int .i64 0, .bool op]
        clear C3
        have C3 := D3
        clear D3
        have D5 := B5.other (show g5 ≠ g4 by omega) #[.int .u32 (id : Int), .int .u32 (ev : Int), .int .i64 m, .int .i64 c, .int .i64 r, .int .i64 l, .int .i64 0, .int .i64 (-1), .int .i64 0, .bool op]
        clear B5
        have B5 := D5
        clear D5
        refine hK.out _ _ ⟨Ext.setRow hS.1 (by omega) _, hS.2.1.other (by omega) _, (hS.2.1.other (show w.heap.size ≠ g4 by omega) #[.int .u32 (id : Int), .int .u32 (ev : Int), .int .i64 m, .int .i64 c, .int .i64 r, .int .i64 l, .int .i64 0, .int .i64 (-1), .int .i64 0, .bool op]).cell⟩ (fun hS' => ?_)
        clear hK K hS
        have hS := hS'
        clear hS'
        try simp only [Act.put, List.getElem_toArray, List.getElem_cons_zero, List.getElem_cons_succ, List.setIfInBounds_toArray, List.set_cons_zero, List.set_cons_succ]
        refine wpAnyH_ready (rs := [8]) (by kernel_rfl) (by simp) ?_
        refine AllReadyH.cons rfl (fun K hK => ?_) AllReadyH.nil
        rw [if_pos (by rfl)]
        refine wp_store_row 24 (.tmp 12) (.tmp 26) rfl g5 #[.int .u32 (id : Int), .int .u32 (ev : Int), .int .i64 m, .int .i64 c, .int .i64 r, .int .i64 l, .int .i64 0, .int .i64 (-1), .int .i64 0, .bool op] rfl rfl 24 #[.int .u32 0, .int .u32 0, .int .i64 0, .int .i64 0, .int .i64 0, .int .i64 0, .int .i64 0, .int .i64 0, .int .i64 0, .bool false] B5 (by kernel_rfl) rfl (by kernel_rfl) ?_
        have C5 := B5.set #[.int .u32 (id : Int), .int .u32 (ev : Int), .int .i64 m, .int .i64 c, .int .i64 r, .int .i64 l, .int .i64 0, .int .i64 (-1), .int .i64 0, .bool op]
        have D3 := C3.other (show g3 ≠ g5 by omega) #[.int .u32 (id : Int), .int .u32 (ev : Int), .int .i64 m, .int .i64 c, .int .i64 r, .int .i64 l, .int .i64 0, .int .i64 (-1), .int .i64 0, .bool op]
        clear C3
        have C3 := D3
        clear D3
        have D4 := C4.other (show g4 ≠ g5 by omega) #[.int .u32 (id : Int), .int .u32 (ev : Int), .int .i64 m, .int .i64 c, .int .i64 r, .int .i64 l, .int .i64 0, .int .i64 (-1), .int .i64 0, .bool op]
        clear C4
        have C4 := D4
        clear D4
        refine hK.out _ _ ⟨Ext.setRow hS.1 (by omega) _, hS.2.1.other (by omega) _, (hS.2.1.other (show w.heap.size ≠ g5 by omega) #[.int .u32 (id : Int), .int .u32 (ev : Int), .int .i64 m, .int .i64 c, .int .i64 r, .int .i64 l, .int .i64 0, .int .i64 (-1), .int .i64 0, .bool op]).cell⟩ (fun hS' => ?_)
        clear hK K hS
        have hS := hS'
        clear hS'
        try simp only [Act.put, List.getElem_toArray, List.getElem_cons_zero, List.getElem_cons_succ, List.setIfInBounds_toArray, List.set_cons_zero, List.set_cons_succ]
        refine wpAnyH_done (by kernel_rfl) ?_ _
        go_wp2_with fail
        go_meet
        exact ⟨g3, g4, g5, rfl, rfl, rfl, ⟨by omega, by omega, by omega, hw3, hw4, hw5⟩, C3, C4, C5, hS.2.1, hS.1⟩
    · rw [if_pos (by rfl)]
      go_simp
      obtain ⟨g4, hg4⟩ : ∃ g : Nat, g = v.heap.size := ⟨_, rfl⟩
      have B4 := BoxOf.new' v g4 #[.int .u32 0, .int .u32 0, .int .i64 0, .int .i64 0, .int .i64 0, .int .i64 0, .int .i64 0, .int .i64 0, .int .i64 0, .bool false] 24 hg4
      have hw4 : w.heap.size < g4 := by rw [hg4]; exact hS.2.1.lt
      refine hK.out _ _ ⟨Ext.alloc hS.1 _, hS.2.1.alloc _, (hS.2.1.alloc (.cells #[.int .u32 0, .int .u32 0, .int .i64 0, .int .i64 0, .int .i64 0, .int .i64 0, .int .i64 0, .int .i64 0, .int .i64 0, .bool false] 24)).cell⟩ (fun hS' => ?_)
      rw [← hg4]
      clear hg4 hK K hS
      have hS := hS'
      clear hS'
      generalize v.alloc (.cells #[.int .u32 0, .int .u32 0, .int .i64 0, .int .i64 0, .int .i64 0, .int .i64 0, .int .i64 0, .int .i64 0, .int .i64 0, .bool false] 24) = u1 at *
      try simp only [Act.put, List.getElem_toArray, List.getElem_cons_zero, List.getElem_cons_succ, List.setIfInBounds_toArray, List.set_cons_zero, List.set_cons_succ]
      refine wpAnyH_ready (rs := [3, 5]) (by kernel_rfl) (by simp) ?_
      refine AllReadyH.cons rfl (fun K hK => ?_) (AllReadyH.cons rfl (fun K hK => ?_) (AllReadyH.nil))
      · rw [if_pos (by rfl)]
        go_simp
        obtain ⟨g3, hg3⟩ : ∃ g : Nat, g = u1.heap.size := ⟨_, rfl⟩
        have B3 := BoxOf.new' u1 g3 #[.int .u32 0, .int .u32 0, .int .i64 0, .int .i64 0, .int .i64 0, .int .i64 0, .int .i64 0, .int .i64 0, .int .i64 0, .bool false] 24 hg3
        have hw3 : w.heap.size < g3 := by rw [hg3]; exact hS.2.1.lt
        have h43 : g4 < g3 := by rw [hg3]; exact B4.lt
        have B4' := B4.alloc (.cells #[.int .u32 0, .int .u32 0, .int .i64 0, .int .i64 0, .int .i64 0, .int .i64 0, .int .i64 0, .int .i64 0, .int .i64 0, .bool false] 24)
        clear B4
        have B4 := B4'
        clear B4'
        refine hK.out _ _ ⟨Ext.alloc hS.1 _, hS.2.1.alloc _, (hS.2.1.alloc (.cells #[.int .u32 0, .int .u32 0, .int .i64 0, .int .i64 0, .int .i64 0, .int .i64 0, .int .i64 0, .int .i64 0, .int .i64 0, .bool false] 24)).cell⟩ (fun hS' => ?_)
        rw [← hg3]
        clear hg3 hK K hS
        have hS := hS'
        clear hS'
        generalize u1.alloc (.cells #[.int .u32 0, .int .u32 0, .int .i64 0, .int .i64 0, .int .i64 0, .int .i64 0, .int .i64 0, .int .i64 0, .int .i64 0, .bool false] 24) = u2 at *
        try simp only [Act.put, List.getElem_toArray, List.getElem_cons_zero, List.getElem_cons_succ, List.setIfInBounds_toArray, List.set_cons_zero, List.set_cons_succ]
        refine wpAnyH_ready (rs := [5]) (by kernel_rfl) (by simp) ?_
        refine AllReadyH.cons rfl (fun K hK => ?_) AllReadyH.nil
        rw [if_pos (by rfl)]
        go_simp
        obtain ⟨g5, hg5⟩ : ∃ g : Nat, g = u2.heap.size := ⟨_, rfl⟩
        have B5 := BoxOf.new' u2 g5 #[.int .u32 0, .int .u32 0, .int .i64 0, .int .i64 0, .int .i64 0, .int .i64 0, .int .i64 0, .int .i64 0, .int .i64 0, .bool false] 24 hg5
        have hw5 : w.heap.size < g5 := by rw [hg5]; exact hS.2.1.lt
        have h45 : g4 < g5 := by rw [hg5]; exact B4.lt
        have B4' := B4.alloc (.cells #[.int .u32 0, .int .u32 0, .int .i64 0, .int .i64 0, .int .i64 0, .int .i64 0, .int .i64 0, .int .i64 0, .int .i64 0, .bool false] 24)
        clear B4
        have B4 := B4'
        clear B4'
        have h35 : g3 < g5 := by rw [hg5]; exact B3.lt
        have B3' := B3.alloc (.cells #[.int .u32 0, .int .u32 0, .int .i64 0, .int .i64 0, .int .i64 0, .int .i64 0, .int .i64 0, .int .i64 0, .int .i64 0, .bool false] 24)
        clear B3
        have B3 := B3'
        clear B3'
        refine hK.out _ _ ⟨Ext.alloc hS.1 _, hS.2.1.alloc _, (hS.2.1.alloc (.cells #[.int .u32 0, .int .u32 0, .int .i64 0, .int .i64 0, .int .i64 0, .int .i64 0, .int .i64 0, .int .i64 0, .int .i64 0, .bool false] 24)).cell⟩ (fun hS' => ?_)
        rw [← hg5]
        clear hg5 hK K hS
        have hS := hS'
        clear hS'
        generalize u2.alloc (.cells #[.int .u32 0, .int .u32 0, .int .i64 0, .int .i64 0, .int .i64 0, .int .i64 0, .int .i64 0, .int .i64 0, .int .i64 0, .bool false] 24) = u3 at *
        try simp only [Act.put, List.getElem_toArray, List.getElem_cons_zero, List.getElem_cons_succ, List.setIfInBounds_toArray, List.set_cons_zero, List.set_cons_succ]
        refine wpAnyH_ready (rs := [6]) (by kernel_rfl) (by simp) ?_
        refine AllReadyH.cons rfl (fun K hK => ?_) AllReadyH.nil
        rw [if_pos (by rfl)]
        refine wp_store_row 24 (.tmp 10) (.tmp 24) rfl g3 #[.int .u32 (id : Int), .int .u32 (ev : Int), .int .i64 m, .int .i64 c, .int .i64 r, .int .i64 l, .int .i64 0, .int .i64 (-1), .int .i64 0, .bool op] rfl rfl 24 #[.int .u32 0, .int .u32 0, .int .i64 0, .int .i64 0, .int .i64 0, .int .i64 0, .int .i64 0, .int .i64 0, .int .i64 0, .bool false] B3 (by kernel_rfl) rfl (by kernel_rfl) ?_
        have C3 := B3.set #[.int .u32 (id : Int), .int .u32 (ev : Int), .int .i64 m, .int .i64 c, .int .i64 r, .int .i64 l, .int .i64 0, .int .i64 (-1), .int .i64 0, .bool op]
        have D4 := B4.other (show g4 ≠ g3 by omega) #[.int .u32 (id : Int), .int .u32 (ev : Int), .int .i64 m, .int .i64 c, .int .i64 r, .int .i64 l, .int .i64 0, .int .i64 (-1), .int .i64 0, .bool op]
        clear B4
        have B4 := D4
        clear D4
        have D5 := B5.other (show g5 ≠ g3 by omega) #[.int .u32 (id : Int), .int .u32 (ev : Int), .int .i64 m, .int .i64 c, .int .i64 r, .int .i64 l, .int .i64 0, .int .i64 (-1), .int .i64 0, .bool op]
        clear B5
        have B5 := D5
        clear D5
        refine hK.out _ _ ⟨Ext.setRow hS.1 (by omega) _, hS.2.1.other (by omega) _, (hS.2.1.other (show w.heap.size ≠ g3 by omega) #[.int .u32 (id : Int), .int .u32 (ev : Int), .int .i64 m, .int .i64 c, .int .i64 r, .int .i64 l, .int .i64 0, .int .i64 (-1), .int .i64 0, .bool op]).cell⟩ (fun hS' => ?_)
        clear hK K hS
        have hS := hS'
        clear hS'
        try simp only [Act.put, List.getElem_toArray, List.getElem_cons_zero, List.getElem_cons_succ, List.setIfInBounds_toArray, List.set_cons_zero, List.set_cons_succ]
        refine wpAnyH_ready (rs := [7]) (by kernel_rfl) (by simp) ?_
        refine AllReadyH.cons rfl (fun K hK => ?_) AllReadyH.nil
        rw [if_pos (by rfl)]
        refine wp_store_row 24 (.tmp 11) (.tmp 25) rfl g4 #[.int .u32 (id : Int), .int .u32 (ev : Int), .int .i64 m, .int .i64 c, .int .i64 r, .int .i64 l, .int .i64 0, .int .i64 (-1), .int .i64 0, .bool op] rfl rfl 24 #[.int .u32 0, .int .u32 0, .int .i64 0, .int .i64 0, .int .i64 0, .int .i64 0, .int .i64 0, .int .i64 0, .int .i64 0, .bool false] B4 (by kernel_rfl) rfl (by kernel_rfl) ?_
        have C4 := B4.set #[.int .u32 (id : Int), .int .u32 (ev : Int), .int .i64 m, .int .i64 c, .int .i64 r, .int .i64 l, .int .i64 0, .int .i64 (-1), .int .i64 0, .bool op]
        have D3 := C3.other (show g3 ≠ g4 by omega) #[.int .u32 (id : Int), .int .u32 (ev : Int), .int .i64 m, .int .i64 c, .int .i64 r, .int .i64 l, .int .i64 0, .int .i64 (-1), .int .i64 0, .bool op]
        clear C3
        have C3 := D3
        clear D3
        have D5 := B5.other (show g5 ≠ g4 by omega) #[.int .u32 (id : Int), .int .u32 (ev : Int), .int .i64 m, .int .i64 c, .int .i64 r, .int .i64 l, .int .i64 0, .int .i64 (-1), .int .i64 0, .bool op]
        clear B5
        have B5 := D5
        clear D5
        refine hK.out _ _ ⟨Ext.setRow hS.1 (by omega) _, hS.2.1.other (by omega) _, (hS.2.1.other (show w.heap.size ≠ g4 by omega) #[.int .u32 (id : Int), .int .u32 (ev : Int), .int .i64 m, .int .i64 c, .int .i64 r, .int .i64 l, .int .i64 0, .int .i64 (-1), .int .i64 0, .bool op]).cell⟩ (fun hS' => ?_)
        clear hK K hS
        have hS := hS'
        clear hS'
        try simp only [Act.put, List.getElem_toArray, List.getElem_cons_zero, List.getElem_cons_succ, List.setIfInBounds_toArray, List.set_cons_zero, List.set_cons_succ]
        refine wpAnyH_ready (rs := [8]) (by kernel_rfl) (by simp) ?_
        refine AllReadyH.cons rfl (fun K hK => ?_) AllReadyH.nil
        rw [if_pos (by rfl)]
        refine wp_store_row 24 (.tmp 12) (.tmp 26) rfl g5 #[.int .u32 (id : Int), .int .u32 (ev : Int), .int .i64 m, .int .i64 c, .int .i64 r, .int .i64 l, .int .i64 0, .int .i64 (-1), .int .i64 0, .bool op] rfl rfl 24 #[.int .u32 0, .int .u32 0, .int .i64 0, .int .i64 0, .int .i64 0, .int .i64 0, .int .i64 0, .int .i64 0, .int .i64 0, .bool false] B5 (by kernel_rfl) rfl (by kernel_rfl) ?_
        have C5 := B5.set #[.int .u32 (id : Int), .int .u32 (ev : Int), .int .i64 m, .int .i64 c, .int .i64 r, .int .i64 l, .int .i64 0, .int .i64 (-1), .int .i64 0, .bool op]
        have D3 := C3.other (show g3 ≠ g5 by omega) #[.int .u32 (id : Int), .int .u32 (ev : Int), .int .i64 m, .int .i64 c, .int .i64 r, .int .i64 l, .int .i64 0, .int .i64 (-1), .int .i64 0, .bool op]
        clear C3
        have C3 := D3
        clear D3
        have D4 := C4.other (show g4 ≠ g5 by omega) #[.int .u32 (id : Int), .int .u32 (ev : Int), .int .i64 m, .int .i64 c, .int .i64 r, .int .i64 l, .int .i64 0, .int .i64 (-1), .int .i64 0, .bool op]
        clear C4
        have C4 := D4
        clear D4
        refine hK.out _ _ ⟨Ext.setRow hS.1 (by omega) _, hS.2.1.other (by omega) _, (hS.2.1.other (show w.heap.size ≠ g5 by omega) #[.int .u32 (id : Int), .int .u32 (ev : Int), .int .i64 m, .int .i64 c, .int .i64 r, .int .i64 l, .int .i64 0, .int .i64 (-1), .int .i64 0, .bool op]).cell⟩ (fun hS' => ?_)
        clear hK K hS
        have hS := hS'
        clear hS'
        try simp only [Act.put, List.getElem_toArray, List.getElem_cons_zero, List.getElem_cons_succ, List.setIfInBounds_toArray, List.set_cons_zero, List.set_cons_succ]
        refine wpAnyH_done (by kernel_rfl) ?_ _
        go_wp2_with fail
        go_meet
        exact ⟨g3, g4, g5, rfl, rfl, rfl, ⟨by omega, by omega, by omega, hw3, hw4, hw5⟩, C3, C4, C5, hS.2.1, hS.1⟩
      · rw [if_pos (by rfl)]
        go_simp
        obtain ⟨g5, hg5⟩ : ∃ g : Nat, g = u1.heap.size := ⟨_, rfl⟩
        have B5 := BoxOf.new' u1 g5 #[.int .u32 0, .int .u32 0, .int .i64 0, .int .i64 0, .int .i64 0, .int .i64 0, .int .i64 0, .int .i64 0, .int .i64 0, .bool false] 24 hg5
        have hw5 : w.heap.size < g5 := by rw [hg5]; exact hS.2.1.lt
        have h45 : g4 < g5 := by rw [hg5]; exact B4.lt
        have B4' := B4.alloc (.cells #[.int .u32 0, .int .u32 0, .int .i64 0, .int .i64 0, .int .i64 0, .int .i64 0, .int .i64 0, .int .i64 0, .int .i64 0, .bool false] 24)
        clear B4
        have B4 := B4'
        clear B4'
        refine hK.out _ _ ⟨Ext.alloc hS.1 _, hS.2.1.alloc _, (hS.2.1.alloc (.cells #[.int .u32 0, .int .u32 0, .int .i64 0, .int .i64 0, .int .i64 0, .int .i64 0, .int .i64 0, .int .i64 0, .int .i64 0, .bool false] 24)).cell⟩ (fun hS' => ?_)
        rw [← hg5]
        clear hg5 hK K hS
        have hS := hS'
        clear hS'
        generalize u1.alloc (.cells #[.int .u32 0, .int .u32 0, .int .i64 0, .int .i64 0, .int .i64 0, .int .i64 0, .int .i64 0, .int .i64 0, .int .i64 0, .bool false] 24) = u2 at *
        try simp only [Act.put, List.getElem_toArray, List.getElem_cons_zero, List.getElem_cons_succ, List.setIfInBounds_toArray, List.set_cons_zero, List.set_cons_succ]
        refine wpAnyH_ready (rs := [3]) (by kernel_rfl) (by simp) ?_
        refine AllReadyH.cons rfl (fun K hK => ?_) AllReadyH.nil
        rw [if_pos (by rfl)]
        go_simp
        obtain ⟨g3, hg3⟩ : ∃ g : Nat, g = u2.heap.size := ⟨_, rfl⟩
        have B3 := BoxOf.new' u2 g3 #[.int .u32 0, .int .u32 0, .int .i64 0, .int .i64 0, .int .i64 0, .int .i64 0, .int .i64 0, .int .i64 0, .int .i64 0, .bool false] 24 hg3
        have hw3 : w.heap.size < g3 := by rw [hg3]; exact hS.2.1.lt
        have h43 : g4 < g3 := by rw [hg3]; exact B4.lt
        have B4' := B4.alloc (.cells #[.int .u32 0, .int .u32 0, .int .i64 0, .int .i64 0, .int .i64 0, .int .i64 0, .int .i64 0, .int .i64 0, .int .i64 0, .bool false] 24)
        clear B4
        have B4 := B4'
        clear B4'
        have h53 : g5 < g3 := by rw [hg3]; exact B5.lt
        have B5' := B5.alloc (.cells #[.int .u32 0, .int .u32 0, .int .i64 0, .int .i64 0, .int .i64 0, .int .i64 0, .int .i64 0, .int .i64 0, .int .i64 0, .bool false] 24)
        clear B5
        have B5 := B5'
        clear B5'
        refine hK.out _ _ ⟨Ext.alloc hS.1 _, hS.2.1.alloc _, (hS.2.1.alloc (.cells #[.int .u32 0, .int .u32 0, .int .i64 0, .int .i64 0, .int .i64 0, .int .i64 0, .int .i64 0, .int .i64 0, .int .i64 0, .bool false] 24)).cell⟩ (fun hS' => ?_)
        rw [← hg3]
        clear hg3 hK K hS
        have hS := hS'
        clear hS'
        generalize u2.alloc (.cells #[.int .u32 0, .int .u32 0, .int .i64 0, .int .i64 0, .int .i64 0, .int .i64 0, .int .i64 0, .int .i64 0, .int .i64 0, .bool false] 24) = u3 at *
        try simp only [Act.put, List.getElem_toArray, List.getElem_cons_zero, List.getElem_cons_succ, List.setIfInBounds_toArray, List.set_cons_zero, List.set_cons_succ]
        refine wpAnyH_ready (rs := [6]) (by kernel_rfl) (by simp) ?_
        refine AllReadyH.cons rfl (fun K hK => ?_) AllReadyH.nil
        rw [if_pos (by rfl)]
        refine wp_store_row 24 (.tmp 10) (.tmp 24) rfl g3 #[.int .u32 (id : Int), .int .u32 (ev : Int), .int .i64 m, .int .i64 c, .int .i64 r, .int .i64 l, .int .i64 0, .int .i64 (-1), .int .i64 0, .bool op] rfl rfl 24 #[.int .u32 0, .int .u32 0, .int .i64 0, .int .i64 0, .int .i64 0, .int .i64 0, .int .i64 0, .int .i64 0, .int .i64 0, .bool false] B3 (by kernel_rfl) rfl (by kernel_rfl) ?_
        have C3 := B3.set #[.int .u32 (id : Int), .int .u32 (ev : Int), .int .i64 m, .int .i64 c, .int .i64 r, .int .i64 l, .int .i64 0, .int .i64 (-1), .int .i64 0, .bool op]
        have D4 := B4.other (show g4 ≠ g3 by omega) #[.int .u32 (id : Int), .int .u32 (ev : Int), .int .i64 m, .int .i64 c, .int .i64 r, .int .i64 l, .int .i64 0, .int .i64 (-1), .int .i64 0, .bool op]
        clear B4
        have B4 := D4
        clear D4
        have D5 := B5.other (show g5 ≠ g3 by omega) #[.int .u32 (id : Int), .int .u32 (ev : Int), .int .i64 m, .int .i64 c, .int .i64 r, .int .i64 l, .int .i64 0, .int .i64 (-1), .int .i64 0, .bool op]
        clear B5
        have B5 := D5
        clear D5
        refine hK.out _ _ ⟨Ext.setRow hS.1 (by omega) _, hS.2.1.other (by omega) _, (hS.2.1.other (show w.heap.size ≠ g3 by omega) #[.int .u32 (id : Int), .int .u32 (ev : Int), .int .i64 m, .int .i64 c, .int .i64 r, .int .i64 l, .int .i64 0, .int .i64 (-1), .int .i64 0, .bool op]).cell⟩ (fun hS' => ?_)
        clear hK K hS
        have hS := hS'
        clear hS'
        try simp only [Act.put, List.getElem_toArray, List.getElem_cons_zero, List.getElem_cons_succ, List.setIfInBounds_toArray, List.set_cons_zero, List.set_cons_succ]
        refine wpAnyH_ready (rs := [7]) (by kernel_rfl) (by simp) ?_
        refine AllReadyH.cons rfl (fun K hK => ?_) AllReadyH.nil
        rw [if_pos (by rfl)]
        refine wp_store_row 24 (.tmp 11) (.tmp 25) rfl g4 #[.int .u32 (id : Int), .int .u32 (ev : Int), .int .i64 m, .int .i64 c, .int .i64 r, .int .i64 l, .int .i64 0, .int .i64 (-1), .int .i64 0, .bool op] rfl rfl 24 #[.int .u32 0, .int .u32 0, .int .i64 0, .int .i64 0, .int .i64 0, .int .i64 0, .int .i64 0, .int .i64 0, .int .i64 0, .bool false] B4 (by kernel_rfl) rfl (by kernel_rfl) ?_
        have C4 := B4.set #[.int .u32 (id : Int), .int .u32 (ev : Int), .int .i64 m, .int .i64 c, .int .i64 r, .int .i64 l, .int .i64 0, .int .i64 (-1), .int .i64 0, .bool op]
        have D3 := C3.other (show g3 ≠ g4 by omega) #[.int .u32 (id : Int), .int .u32 (ev : Int), .int .i64 m, .int .i64 c, .int .i64 r, .int .i64 l, .int .i64 0, .int .i64 (-1), .int .i64 0, .bool op]
        clear C3
        have C3 := D3
        clear D3
        have D5 := B5.other (show g5 ≠ g4 by omega) #[.int .u32 (id : Int), .int .u32 (ev : Int), .int .i64 m, .int .i64 c, .int .i64 r, .int .i64 l, .int .i64 0, .int .i64 (-1), .int .i64 0, .bool op]
        clear B5
        have B5 := D5
        clear D5
        refine hK.out _ _ ⟨Ext.setRow hS.1 (by omega) _, hS.2.1.other (by omega) _, (hS.2.1.other (show w.heap.size ≠ g4 by omega) #[.int .u32 (id : Int), .int .u32 (ev : Int), .int .i64 m, .int .i64 c, .int .i64 r, .int .i64 l, .int .i64 0, .int .i64 (-1), .int .i64 0, .bool op]).cell⟩ (fun hS' => ?_)
        clear hK K hS
        have hS := hS'
        clear hS'
        try simp only [Act.put, List.getElem_toArray, List.getElem_cons_zero, List.getElem_cons_succ, List.setIfInBounds_toArray, List.set_cons_zero, List.set_cons_succ]
        refine wpAnyH_ready (rs := [8]) (by kernel_rfl) (by simp) ?_
        refine AllReadyH.cons rfl (fun K hK => ?_) AllReadyH.nil
        rw [if_pos (by rfl)]
        refine wp_store_row 24 (.tmp 12) (.tmp 26) rfl g5 #[.int .u32 (id : Int), .int .u32 (ev : Int), .int .i64 m, .int .i64 c, .int .i64 r, .int .i64 l, .int .i64 0, .int .i64 (-1), .int .i64 0, .bool op] rfl rfl 24 #[.int .u32 0, .int .u32 0, .int .i64 0, .int .i64 0, .int .i64 0, .int .i64 0, .int .i64 0, .int .i64 0, .int .i64 0, .bool false] B5 (by kernel_rfl) rfl (by kernel_rfl) ?_
        have C5 := B5.set #[.int .u32 (id : Int), .int .u32 (ev : Int), .int .i64 m, .int .i64 c, .int .i64 r, .int .i64 l, .int .i64 0, .int .i64 (-1), .int .i64 0, .bool op]
        have D3 := C3.other (show g3 ≠ g5 by omega) #[.int .u32 (id : Int), .int .u32 (ev : Int), .int .i64 m, .int .i64 c, .int .i64 r, .int .i64 l, .int .i64 0, .int .i64 (-1), .int .i64 0, .bool op]
        clear C3
        have C3 := D3
        clear D3
        have D4 := C4.other (show g4 ≠ g5 by omega) #[.int .u32 (id : Int), .int .u32 (ev : Int), .int .i64 m, .int .i64 c, .int .i64 r, .int .i64 l, .int .i64 0, .int .i64 (-1), .int .i64 0, .bool op]
        clear C4
        have C4 := D4
        clear D4
        refine hK.out _ _ ⟨Ext.setRow hS.1 (by omega) _, hS.2.1.other (by omega) _, (hS.2.1.other (show w.heap.size ≠ g5 by omega) #[.int .u32 (id : Int), .int .u32 (ev : Int), .int .i64 m, .int .i64 c, .int .i64 r, .int .i64 l, .int .i64 0, .int .i64 (-1), .int .i64 0, .bool op]).cell⟩ (fun hS' => ?_)
        clear hK K hS
        have hS := hS'
        clear hS'
        try simp only [Act.put, List.getElem_toArray, List.getElem_cons_zero, List.getElem_cons_succ, List.setIfInBounds_toArray, List.set_cons_zero, List.set_cons_succ]
        refine wpAnyH_done (by kernel_rfl) ?_ _
        go_wp2_with fail
        go_meet
        exact ⟨g3, g4, g5, rfl, rfl, rfl, ⟨by omega, by omega, by omega, hw3, hw4, hw5⟩, C3, C4, C5, hS.2.1, hS.1⟩
    · rw [if_pos (by rfl)]
      go_simp
      obtain ⟨g5, hg5⟩ : ∃ g : Nat, g = v.heap.size := ⟨_, rfl⟩
      have B5 := BoxOf.new' v g5 #[.int .u32 0, .int .u32 0, .int .i64 0, .int .i64 0, .int .i64 0, .int .i64 0, .int .i64 0, .int .i64 0, .int .i64 0, .bool false] 24 hg5
      have hw5 : w.heap.size < g5 := by rw [hg5]; exact hS.2.1.lt
      refine hK.out _ _ ⟨Ext.alloc hS.1 _, hS.2.1.alloc _, (hS.2.1.alloc (.cells #[.int .u32 0, .int .u32 0, .int .i64 0, .int .i64 0, .int .i64 0, .int .i64 0, .int .i64 0, .int .i64 0, .int .i64 0, .bool false] 24)).cell⟩ (fun hS' => ?_)
      rw [← hg5]
      clear hg5 hK K hS
      have hS := hS'
      clear hS'
      generalize v.alloc (.cells #[.int .u32 0, .int .u32 0, .int .i64 0, .int .i64 0, .int .i64 0, .int .i64 0, .int .i64 0, .int .i64 0, .int .i64 0, .bool false] 24) = u1 at *
      try simp only [Act.put, List.getElem_toArray, List.getElem_cons_zero, List.getElem_cons_succ, List.setIfInBounds_toArray, List.set_cons_zero, List.set_cons_succ]
      refine wpAnyH_ready (rs := [3, 4]) (by kernel_rfl) (by simp) ?_
      refine AllReadyH.cons rfl (fun K hK => ?_) (AllReadyH.cons rfl (fun K hK => ?_) (AllReadyH.nil))
      · rw [if_pos (by rfl)]
        go_simp
        obtain ⟨g3, hg3⟩ : ∃ g : Nat, g = u1.heap.size := ⟨_, rfl⟩
        have B3 := BoxOf.new' u1 g3 #[.int .u32 0, .int .u32 0, .int .i64 0, .int .i64 0, .int .i64 0, .int .i64 0, .int .i64 0, .int .i64 0, .int .i64 0, .bool false] 24 hg3
        have hw3 : w.heap.size < g3 := by rw [hg3]; exact hS.2.1.lt
        have h53 : g5 < g3 := by rw [hg3]; exact B5.lt
        have B5' := B5.alloc (.cells #[.int .u32 0, .int .u32 0, .int .i64 0, .int .i64 0, .int .i64 0, .int .i64 0, .int .i64 0, .int .i64 0, .int .i64 0, .bool false] 24)
        clear B5
        have B5 := B5'
        clear B5'
        refine hK.out _ _ ⟨Ext.alloc hS.1 _, hS.2.1.alloc _, (hS.2.1.alloc (.cells #[.int .u32 0, .int .u32 0, .int .i64 0, .int .i64 0, .int .i64 0, .int .i64 0, .int .i64 0, .int .i64 0, .int .i64 0, .bool false] 24)).cell⟩ (fun hS' => ?_)
        rw [← hg3]
        clear hg3 hK K hS
        have hS := hS'
        clear hS'
        generalize u1.alloc (.cells #[.int .u32 0, .int .u32 0, .int .i64 0, .int .i64 0, .int .i64 0, .int .i64 0, .int .i64 0, .int .i64 0, .int .i64 0, .bool false] 24) = u2 at *
        try simp only [Act.put, List.getElem_toArray, List.getElem_cons_zero, List.getElem_cons_succ, List.setIfInBounds_toArray, List.set_cons_zero, List.set_cons_succ]
        refine wpAnyH_ready (rs := [4]) (by kernel_rfl) (by simp) ?_
        refine AllReadyH.cons rfl (fun K hK => ?_) AllReadyH.nil
        rw [if_pos (by rfl)]
        go_simp
        obtain ⟨g4, hg4⟩ : ∃ g : Nat, g = u2.heap.size := ⟨_, rfl⟩
        have B4 := BoxOf.new' u2 g4 #[.int .u32 0, .int .u32 0, .int .i64 0, .int .i64 0, .int .i64 0, .int .i64 0, .int .i64 0, .int .i64 0, .int .i64 0, .bool false] 24 hg4
        have hw4 : w.heap.size < g4 := by rw [hg4]; exact hS.2.1.lt
        have h54 : g5 < g4 := by rw [hg4]; exact B5.lt
        have B5' := B5.alloc (.cells #[.int .u32 0, .int .u32 0, .int .i64 0, .int .i64 0, .int .i64 0, .int .i64 0, .int .i64 0, .int .i64 0, .int .i64 0, .bool false] 24)
        clear B5
        have B5 := B5'
        clear B5'
        have h34 : g3 < g4 := by rw [hg4]; exact B3.lt
        have B3' := B3.alloc (.cells #[.int .u32 0, .int .u32 0, .int .i64 0, .int .i64 0, .int .i64 0, .int .i64 0, .int .i64 0, .int .i64 0, .int .i64 0, .bool false] 24)
        clear B3
        have B3 := B3'
        clear B3'
        refine hK.out _ _ ⟨Ext.alloc hS.1 _, hS.2.1.alloc _, (hS.2.1.alloc (.cells #[.int .u32 0, .int .u32 0, .int .i64 0, .int .i64 0, .int .i64 0, .int .i64 0, .int .i64 0, .int .i64 0, .int .i64 0, .bool false] 24)).cell⟩ (fun hS' => ?_)
        rw [← hg4]
        clear hg4 hK K hS
        have hS := hS'
        clear hS'
        generalize u2.alloc (.cells #[.int .u32 0, .int .u32 0, .int .i64 0, .int .i64 0, .int .i64 0, .int .i64 0, .int .i64 0, .int .i64 0, .int .i64 0, .bool false] 24) = u3 at *
        try simp only [Act.put, List.getElem_toArray, List.getElem_cons_zero, List.getElem_cons_succ, List.setIfInBounds_toArray, List.set_cons_zero, List.set_cons_succ]
        refine wpAnyH_ready (rs := [6]) (by kernel_rfl) (by simp) ?_
        refine AllReadyH.cons rfl (fun K hK => ?_) AllReadyH.nil
        rw [if_pos (by rfl)]
        refine wp_store_row 24 (.tmp 10) (.tmp 24) rfl g3 #[.int .u32 (id : Int), .int .u32 (ev : Int), .int .i64 m, .int .i64 c, .int .i64 r, .int .i64 l, .int .i64 0, .int .i64 (-1), .int .i64 0, .bool op] rfl rfl 24 #[.int .u32 0, .int .u32 0, .int .i64 0, .int .i64 0, .int .i64 0, .int .i64 0, .int .i64 0, .int .i64 0, .int .i64 0, .bool false] B3 (by kernel_rfl) rfl (by kernel_rfl) ?_
        have C3 := B3.set #[.int .u32 (id : Int), .int .u32 (ev : Int), .int .i64 m, .int .i64 c, .int .i64 r, .int .i64 l, .int .i64 0, .int .i64 (-1), .int .i64 0, .bool op]
        have D4 := B4.other (show g4 ≠ g3 by omega) #[.int .u32 (id : Int), .int .u32 (ev : Int), .int .i64 m, .int .i64 c, .int .i64 r, .int .i64 l, .int .i64 0, .int .i64 (-1), .int .i64 0, .bool op]
        clear B4
        have B4 := D4
        clear D4
        have D5 := B5.other (show g5 ≠ g3 by omega) #[.int .u32 (id : Int), .int .u32 (ev : Int), .int .i64 m, .int .i64 c, .int .i64 r, .int .i64 l, .int .i64 0, .int .i64 (-1), .int .i64 0, .bool op]
        clear B5
        have B5 := D5
        clear D5
        refine hK.out _ _ ⟨Ext.setRow hS.1 (by omega) _, hS.2.1.other (by omega) _, (hS.2.1.other (show w.heap.size ≠ g3 by omega) #[.int .u32 (id : Int), .int .u32 (ev : Int), .int .i64 m, .int .i64 c, .int .i64 r, .int .i64 l, .int .i64 0, .int .i64 (-1), .int .i64 0, .bool op]).cell⟩ (fun hS' => ?_)
        clear hK K hS
        have hS := hS'
        clear hS'
        try simp only [Act.put, List.getElem_toArray, List.getElem_cons_zero, List.getElem_cons_succ, List.setIfInBounds_toArray, List.set_cons_zero, List.set_cons_succ]
        refine wpAnyH_ready (rs := [7]) (by kernel_rfl) (by simp) ?_
        refine AllReadyH.cons rfl (fun K hK => ?_) AllReadyH.nil
        rw [if_pos (by rfl)]
        refine wp_store_row 24 (.tmp 11) (.tmp 25) rfl g4 #[.int .u32 (id : Int), .int .u32 (ev : Int), .int .i64 m, .int .i64 c, .int .i64 r, .int .i64 l, .int .i64 0, .int .i64 (-1), .int .i64 0, .bool op] rfl rfl 24 #[.int .u32 0, .int .u32 0, .int .i64 0, .int .i64 0, .int .i64 0, .int .i64 0, .int .i64 0, .int .i64 0, .int .i64 0, .bool false] B4 (by kernel_rfl) rfl (by kernel_rfl) ?_
        have C4 := B4.set #[.int .u32 (id : Int), .int .u32 (ev : Int), .int .i64 m, .int .i64 c, .int .i64 r, .int .i64 l, .int .i64 0, .int .i64 (-1), .int .i64 0, .bool op]
        have D3 := C3.other (show g3 ≠ g4 by omega) #[.int .u32 (id : Int), .int .u32 (ev : Int), .int .i64 m, .int .i64 c, .int .i64 r, .int .i64 l, .int .i64 0, .int .i64 (-1), .int .i64 0, .bool op]
        clear C3
        have C3 := D3
        clear D3
        have D5 := B5.other (show g5 ≠ g4 by omega) #[.int .u32 (id : Int), .int .u32 (ev : Int), .int .i64 m, .int .i64 c, .int .i64 r, .int .i64 l, .int .i64 0, .int .i64 (-1), .int .i64 0, .bool op]
        clear B5
        have B5 := D5
        clear D5
        refine hK.out _ _ ⟨Ext.setRow hS.1 (by omega) _, hS.2.1.other (by omega) _, (hS.2.1.other (show w.heap.size ≠ g4 by omega) #[.int .u32 (id : Int), .int .u32 (ev : Int), .int .i64 m, .int .i64 c, .int .i64 r, .int .i64 l, .int .i64 0, .int .i64 (-1), .int .i64 0, .bool op]).cell⟩ (fun hS' => ?_)
        clear hK K hS
        have hS := hS'
        clear hS'
        try simp only [Act.put, List.getElem_toArray, List.getElem_cons_zero, List.getElem_cons_succ, List.setIfInBounds_toArray, List.set_cons_zero, List.set_cons_succ]
        refine wpAnyH_ready (rs := [8]) (by kernel_rfl) (by simp) ?_
        refine AllReadyH.cons rfl (fun K hK => ?_) AllReadyH.nil
        rw [if_pos (by rfl)]
        refine wp_store_row 24 (.tmp 12) (.tmp 26) rfl g5 #[.int .u32 (id : Int), .int .u32 (ev : Int), .int .i64 m, .int .i64 c, .int .i64 r, .int .i64 l, .int .i64 0, .int .i64 (-1), .int .i64 0, .bool op] rfl rfl 24 #[.int .u32 0, .int .u32 0, .int .i64 0, .int .i64 0, .int .i64 0, .int .i64 0, .int .i64 0, .int .i64 0, .int .i64 0, .bool false] B5 (by kernel_rfl) rfl (by kernel_rfl) ?_
        have C5 := B5.set #[.int .u32 (id : Int), .int .u32 (ev : Int), .int .i64 m, .int .i64 c, .int .i64 r, .int .i64 l, .int .i64 0, .int .i64 (-1), .int .i64 0, .bool op]
        have D3 := C3.other (show g3 ≠ g5 by omega) #[.int .u32 (id : Int), .int .u32 (ev : Int), .int .i64 m, .int .i64 c, .int .i64 r, .int .i64 l, .int .i64 0, .int .i64 (-1), .int .i64 0, .bool op]
        clear C3
        have C3 := D3
        clear D3
        have D4 := C4.other (show g4 ≠ g5 by omega) #[.int .u32 (id : Int), .int .u32 (ev : Int), .int .i64 m, .int .i64 c, .int .i64 r, .int .i64 l, .int .i64 0, .int .i64 (-1), .int .i64 0, .bool op]
        clear C4
        have C4 := D4
        clear D4
        refine hK.out _ _ ⟨Ext.setRow hS.1 (by omega) _, hS.2.1.other (by omega) _, (hS.2.1.other (show w.heap.size ≠ g5 by omega) #[.int .u32 (id : Int), .int .u32 (ev : Int), .int .i64 m, .int .i64 c, .int .i64 r, .int .i64 l, .int .i64 0, .int .i64 (-1), .int .i64 0, .bool op]).cell⟩ (fun hS' => ?_)
        clear hK K hS
        have hS := hS'
        clear hS'
        try simp only [Act.put, List.getElem_toArray, List.getElem_cons_zero, List.getElem_cons_succ, List.setIfInBounds_toArray, List.set_cons_zero, List.set_cons_succ]
        refine wpAnyH_done (by kernel_rfl) ?_ _
        go_wp2_with fail
        go_meet
        exact ⟨g3, g4, g5, rfl, rfl, rfl, ⟨by omega, by omega, by omega, hw3, hw4, hw5⟩, C3, C4, C5, hS.2.1, hS.1⟩
      · rw [if_pos (by rfl)]
        go_simp
        obtain ⟨g4, hg4⟩ : ∃ g : Nat, g = u1.heap.size := ⟨_, rfl⟩
        have B4 := BoxOf.new' u1 g4 #[.int .u32 0, .int .u32 0, .int .i64 0, .int .i64 0, .int .i64 0, .int .i64 0, .int .i64 0, .int .i64 0, .int .i64 0, .bool false] 24 hg4
        have hw4 : w.heap.size < g4 := by rw [hg4]; exact hS.2.1.lt
        have h54 : g5 < g4 := by rw [hg4]; exact B5.lt
        have B5' := B5.alloc (.cells #[.int .u32 0, .int .u32 0, .int .i64 0, .int .i64 0, .int .i64 0, .int .i64 0, .int .i64 0, .int .i64 0, .int .i64 0, .bool false] 24)
        clear B5
        have B5 := B5'
        clear B5'
        refine hK.out _ _ ⟨Ext.alloc hS.1 _, hS.2.1.alloc _, (hS.2.1.alloc (.cells #[.int .u32 0, .int .u32 0, .int .i64 0, .int .i64 0, .int .i64 0, .int .i64 0, .int .i64 0, .int .i64 0, .int .i64 0, .bool false] 24)).cell⟩ (fun hS' => ?_)
        rw [← hg4]
        clear hg4 hK K hS
        have hS := hS'
        clear hS'
        generalize u1.alloc (.cells #[.int .u32 0, .int .u32 0, .int .i64 0, .int .i64 0, .int .i64 0, .int .i64 0, .int .i64 0, .int .i64 0, .int .i64 0, .bool false] 24) = u2 at *
        try simp only [Act.put, List.getElem_toArray, List.getElem_cons_zero, List.getElem_cons_succ, List.setIfInBounds_toArray, List.set_cons_zero, List.set_cons_succ]
        refine wpAnyH_ready (rs := [3]) (by kernel_rfl) (by simp) ?_
        refine AllReadyH.cons rfl (fun K hK => ?_) AllReadyH.nil
        rw [if_pos (by rfl)]
        go_simp
        obtain ⟨g3, hg3⟩ : ∃ g : Nat, g = u2.heap.size := ⟨_, rfl⟩
        have B3 := BoxOf.new' u2 g3 #[.int .u32 0, .int .u32 0, .int .i64 0, .int .i64 0, .int .i64 0, .int .i64 0, .int .i64 0, .int .i64 0, .int .i64 0, .bool false] 24 hg3
        have hw3 : w.heap.size < g3 := by rw [hg3]; exact hS.2.1.lt
        have h53 : g5 < g3 := by rw [hg3]; exact B5.lt
        have B5' := B5.alloc (.cells #[.int .u32 0, .int .u32 0, .int .i64 0, .int .i64 0, .int .i64 0, .int .i64 0, .int .i64 0, .int .i64 0, .int .i64 0, .bool false] 24)
        clear B5
        have B5 := B5'
        clear B5'
        have h43 : g4 < g3 := by rw [hg3]; exact B4.lt
        have B4' := B4.alloc (.cells #[.int .u32 0, .int .u32 0, .int .i64 0, .int .i64 0, .int .i64 0, .int .i64 0, .int .i64 0, .int .i64 0, .int .i64 0, .bool false] 24)
        clear B4
        have B4 := B4'
        clear B4'
        refine hK.out _ _ ⟨Ext.alloc hS.1 _, hS.2.1.alloc _, (hS.2.1.alloc (.cells #[.int .u32 0, .int .u32 0, .int .i64 0, .int .i64 0, .int .i64 0, .int .i64 0, .int .i64 0, .int .i64 0, .int .i64 0, .bool false] 24)).cell⟩ (fun hS' => ?_)
        rw [← hg3]
        clear hg3 hK K hS
        have hS := hS'
        clear hS'
        generalize u2.alloc (.cells #[.int .u32 0, .int .u32 0, .int .i64 0, .int .i64 0, .int .i64 0, .int .i64 0, .int .i64 0, .int .i64 0, .int .i64 0, .bool false] 24) = u3 at *
        try simp only [Act.put, List.getElem_toArray, List.getElem_cons_zero, List.getElem_cons_succ, List.setIfInBounds_toArray, List.set_cons_zero, List.set_cons_succ]
        refine wpAnyH_ready (rs := [6]) (by kernel_rfl) (by simp) ?_
        refine AllReadyH.cons rfl (fun K hK => ?_) AllReadyH.nil
        rw [if_pos (by rfl)]
        refine wp_store_row 24 (.tmp 10) (.tmp 24) rfl g3 #[.int .u32 (id : Int), .int .u32 (ev : Int), .int .i64 m, .int .i64 c, .int .i64 r, .int .i64 l, .int .i64 0, .int .i64 (-1), .int .i64 0, .bool op] rfl rfl 24 #[.int .u32 0, .int .u32 0, .int .i64 0, .int .i64 0, .int .i64 0, .int .i64 0, .int .i64 0, .int .i64 0, .int .i64 0, .bool false] B3 (by kernel_rfl) rfl (by kernel_rfl) ?_
        have C3 := B3.set #[.int .u32 (id : Int), .int .u32 (ev : Int), .int .i64 m, .int .i64 c, .int .i64 r, .int .i64 l, .int .i64 0, .int .i64 (-1), .int .i64 0, .bool op]
        have D4 := B4.other (show g4 ≠ g3 by omega) #[.int .u32 (id : Int), .int .u32 (ev : Int), .int .i64 m, .int .i64 c, .int .i64 r, .int .i64 l, .int .i64 0, .int .i64 (-1), .int .i64 0, .bool op]
        clear B4
        have B4 := D4
        clear D4
        have D5 := B5.other (show g5 ≠ g3 by omega) #[.int .u32 (id : Int), .int .u32 (ev : Int), .int .i64 m, .int .i64 c, .int .i64 r, .int .i64 l, .int .i64 0, .int .i64 (-1), .int .i64 0, .bool op]
        clear B5
        have B5 := D5
        clear D5
        refine hK.out _ _ ⟨Ext.setRow hS.1 (by omega) _, hS.2.1.other (by omega) _, (hS.2.1.other (show w.heap.size ≠ g3 by omega) #[.int .u32 (id : Int), .int .u32 (ev : Int), .int .i64 m, .int .i64 c, .int .i64 r, .int .i64 l, .int .i64 0, .int .i64 (-1), .int .i64 0, .bool op]).cell⟩ (fun hS' => ?_)
        clear hK K hS
        have hS := hS'
        clear hS'
        try simp only [Act.put, List.getElem_toArray, List.getElem_cons_zero, List.getElem_cons_succ, List.setIfInBounds_toArray, List.set_cons_zero, List.set_cons_succ]
        refine wpAnyH_ready (rs := [7]) (by kernel_rfl) (by simp) ?_
        refine AllReadyH.cons rfl (fun K hK => ?_) AllReadyH.nil
        rw [if_pos (by rfl)]
        refine wp_store_row 24 (.tmp 11) (.tmp 25) rfl g4 #[.int .u32 (id : Int), .int .u32 (ev : Int), .int .i64 m, .int .i64 c, .int .i64 r, .int .i64 l, .int .i64 0, .int .i64 (-1), .int .i64 0, .bool op] rfl rfl 24 #[.int .u32 0, .int .u32 0, .int .i64 0, .int .i64 0, .int .i64 0, .int .i64 0, .int .i64 0, .int .i64 0, .int .i64 0, .bool false] B4 (by kernel_rfl) rfl (by kernel_rfl) ?_
        have C4 := B4.set #[.int .u32 (id : Int), .int .u32 (ev : Int), .int .i64 m, .int .i64 c, .int .i64 r, .int .i64 l, .int .i64 0, .int .i64 (-1), .int .i64 0, .bool op]
        have D3 := C3.other (show g3 ≠ g4 by omega) #[.int .u32 (id : Int), .int .u32 (ev : Int), .int .i64 m, .int .i64 c, .int .i64 r, .int .i64 l, .int .i64 0, .int .i64 (-1), .int .i64 0, .bool op]
        clear C3
        have C3 := D3
        clear D3
        have D5 := B5.other (show g5 ≠ g4 by omega) #[.int .u32 (id : Int), .int .u32 (ev : Int), .int .i64 m, .int .i64 c, .int .i64 r, .int .i64 l, .int .i64 0, .int .i64 (-1), .int .i64 0, .bool op]
        clear B5
        have B5 := D5
        clear D5
        refine hK.out _ _ ⟨Ext.setRow hS.1 (by omega) _, hS.2.1.other (by omega) _, (hS.2.1.other (show w.heap.size ≠ g4 by omega) #[.int .u32 (id : Int), .int .u32 (ev : Int), .int .i64 m, .int .i64 c, .int .i64 r, .int .i64 l, .int .i64 0, .int .i64 (-1), .int .i64 0, .bool op]).cell⟩ (fun hS' => ?_)
        clear hK K hS
        have hS := hS'
        clear hS'
        try simp only [Act.put, List.getElem_toArray, List.getElem_cons_zero, List.getElem_cons_succ, List.setIfInBounds_toArray, List.set_cons_zero, List.set_cons_succ]
        refine wpAnyH_ready (rs := [8]) (by kernel_rfl) (by simp) ?_
        refine AllReadyH.cons rfl (fun K hK => ?_) AllReadyH.nil
        rw [if_pos (by rfl)]
        refine wp_store_row 24 (.tmp 12) (.tmp 26) rfl g5 #[.int .u32 (id : Int), .int .u32 (ev : Int), .int .i64 m, .int .i64 c, .int .i64 r, .int .i64 l, .int .i64 0, .int .i64 (-1), .int .i64 0, .bool op] rfl rfl 24 #[.int .u32 0, .int .u32 0, .int .i64 0, .int .i64 0, .int .i64 0, .int .i64 0, .int .i64 0, .int .i64 0, .int .i64 0, .bool false] B5 (by kernel_rfl) rfl (by kernel_rfl) ?_
        have C5 := B5.set #[.int .u32 (id : Int), .int .u32 (ev : Int), .int .i64 m, .int .i64 c, .int .i64 r, .int .i64 l, .int .i64 0, .int .i64 (-1), .int .i64 0, .bool op]
        have D3 := C3.other (show g3 ≠ g5 by omega) #[.int .u32 (id : Int), .int .u32 (ev : Int), .int .i64 m, .int .i64 c, .int .i64 r, .int .i64 l, .int .i64 0, .int .i64 (-1), .int .i64 0, .bool op]
        clear C3
        have C3 := D3
        clear D3
        have D4 := C4.other (show g4 ≠ g5 by omega) #[.int .u32 (id : Int), .int .u32 (ev : Int), .int .i64 m, .int .i64 c, .int .i64 r, .int .i64 l, .int .i64 0, .int .i64 (-1), .int .i64 0, .bool op]
        clear C4
        have C4 := D4
        clear D4
        refine hK.out _ _ ⟨Ext.setRow hS.1 (by omega) _, hS.2.1.other (by omega) _, (hS.2.1.other (show w.heap.size ≠ g5 by omega) #[.int .u32 (id : Int), .int .u32 (ev : Int), .int .i64 m, .int .i64 c, .int .i64 r, .int .i64 l, .int .i64 0, .int .i64 (-1), .int .i64 0, .bool op]).cell⟩ (fun hS' => ?_)
        clear hK K hS
        have hS := hS'
        clear hS'
        try simp only [Act.put, List.getElem_toArray, List.getElem_cons_zero, List.getElem_cons_succ, List.setIfInBounds_toArray, List.set_cons_zero, List.set_cons_succ]
        refine wpAnyH_done (by kernel_rfl) ?_ _
        go_wp2_with fail
        go_meet
        exact ⟨g3, g4, g5, rfl, rfl, rfl, ⟨by omega, by omega, by omega, hw3, hw4, hw5⟩, C3, C4, C5, hS.2.1, hS.1⟩
  case rest =>
    obtain ⟨gx, gy, gz, rfl, rfl, rfl, ⟨n1, n2, n3, n4, n5, n6⟩, BX, BY, BZ, BL, t4⟩ := hcut
    clear A3 t3
    have x4 := BX.cell
    have y4 := BY.cell
    have z4 := BZ.cell
    have xf := BX.free
    have yf := BY.free
    have zf := BZ.free
    go_upto_region 10 with fail
    have X5 : BoxOf _ gx #[.int .u32 (id : Int), .int .u32 (ev : Int), .int .i64 m, .int .i64 c, .int .i64 r, .int .i64 l, .int .i64 a1, .int .i64 (-1), .int .i64 0, .bool op] 24 := (((BX.setAt 6 (.int .i64 a1)).setElse n1 7 (.int .i64 a2)).setElse n2 7 (.int .i64 0)).setElse n2 8 (.int .i64 a3)
    have Y5 : BoxOf _ gy #[.int .u32 (id : Int), .int .u32 (ev : Int), .int .i64 m, .int .i64 c, .int .i64 r, .int .i64 l, .int .i64 0, .int .i64 a2, .int .i64 0, .bool op] 24 := (((BY.setElse (fun h => n1 h.symm) 6 (.int .i64 a1)).setAt 7 (.int .i64 a2)).setElse n3 7 (.int .i64 0)).setElse n3 8 (.int .i64 a3)
    have Z5 : BoxOf _ gz #[.int .u32 (id : Int), .int .u32 (ev : Int), .int .i64 m, .int .i64 c, .int .i64 r, .int .i64 l, .int .i64 0, .int .i64 0, .int .i64 a3, .bool op] 24 := (((BZ.setElse (fun h => n2 h.symm) 6 (.int .i64 a1)).setElse (fun h => n3 h.symm) 7 (.int .i64 a2)).setAt 7 (.int .i64 0)).setAt 8 (.int .i64 a3)
    have L5 := (((BL.setElse (show w.heap.size ≠ gx by omega) 6 (.int .i64 a1)).setElse (show w.heap.size ≠ gy by omega) 7 (.int .i64 a2)).setElse (show w.heap.size ≠ gz by omega) 7 (.int .i64 0)).setElse (show w.heap.size ≠ gz by omega) 8 (.int .i64 a3)
    have t5 := Below.setCell (p := ⟨gz, 8, none⟩) (Below.setCell (p := ⟨gz, 7, none⟩) (Below.setCell (p := ⟨gy, 7, none⟩) (Below.setCell (p := ⟨gx, 6, none⟩) t4 (show w.heap.size ≤ gx by omega) (.int .i64 a1)) (show w.heap.size ≤ gy by omega) (.int .i64 a2)) (show w.heap.size ≤ gz by omega) (.int .i64 0)) (show w.heap.size ≤ gz by omega) (.int .i64 a3)
    generalize (((wc.setCell ⟨gx, 6, none⟩ (.int .i64 a1)).setCell ⟨gy, 7, none⟩ (.int .i64 a2)).setCell ⟨gz, 7, none⟩ (.int .i64 0)).setCell ⟨gz, 8, none⟩ (.int .i64 a3) = w5 at *
    clear BX BY BZ BL t4 x4 y4 z4 xf yf zf
    have x5 := X5.cell
    have q1 := HCX.out
    have q2 := HCY.out
    have q3 := HCZ.out
    go_wp2_with fail
    refine (H2.out _).mono ?_
    rintro e w6 ⟨rfl, b6⟩
    have Y6 := Y5.next b6
    have Z6 := Z5.next b6
    have L6 := L5.next b6
    have t6 := Ext.trans t5 b6
    have y6 := Y6.cell
    clear X5 Y5 Z5 L5 t5 x5 b6
    go_wp2_with fail
    refine (H3.out _).mono ?_
    rintro e w7 ⟨rfl, b7⟩
    have Z7 := Z6.next b7
    have L7 := L6.next b7
    have t7 := Ext.trans t6 b7
    have z7 := Z7.cell
    clear Y6 Z6 L6 t6 y6 b7
    go_wp2_with fail
    refine (H4.out _).mono ?_
    rintro e w8 ⟨rfl, b8⟩
    have L8 := L7.next b8
    have t8 := Ext.trans t7 b8
    have l8 := L8.cell
    have hcr := HCR.out
    clear Z7 L7 t7 z7 b8
    rcases HX.out with ⟨e1, e2, rfl⟩ | ⟨e1, rfl⟩ | ⟨e1, e2, rfl⟩
    all_goals
      rcases HY.out with ⟨e3, e4, rfl⟩ | ⟨e3, rfl⟩ | ⟨e3, e4, rfl⟩
      all_goals
        rcases HZ.out with ⟨e5, e6, rfl⟩ | ⟨e5, rfl⟩ | ⟨e5, e6, rfl⟩
        all_goals
          go_wp2
          go_ret
          exact ⟨rfl, t8⟩

end Go.Proofs.Ytiomgjfiiibllaa
