/- Layer 30 (model): the reference: a plain array behind a crash. -/
import Derived.Test.YtclbihcggjjgaaaModel15
namespace Go.Proofs.Ytclbihcggjjgaaa
open Go Go.RowKit
set_option linter.unusedSimpArgs false
set_option linter.unusedVariables false

theorem keep_cell2 {w : World} {b o g : Nat} {v : Value} (h : w.cell? ⟨b, o, none⟩ = some v) (hg : b ≠ g) (i : Nat) (u : Value) : (w.setCell ⟨g, i, none⟩ u).cell? ⟨b, o, none⟩ = some v := by
  rw [World.cell?_of_block (w := w) (a := ⟨b, o, none⟩) (Below.heap_setCell w ⟨g, i, none⟩ u b hg)]
  exact h
set_option maxRecDepth 100000 in
set_option maxHeartbeats 4000000 in
theorem rcrash_any (S : Nat → Prop) (x : Cfg) (ys : List (List (List UInt8))) (gs : List GoTy.T) (A : Option Addr) (ca : Nat) (B : Option Addr) (cb : Nat) (D : Option Addr) (dc : Nat) (bl : List (List UInt8)) (w : World) (hy : RdIn w S (.sl (.sl (.sl .byte))) ys [.slice A ys.length ca]) (hg : RdIn w S (.sl GoTy) gs [.slice B gs.length cb]) (hd : RdIn w S (.sl (.sl .byte)) bl [.slice D bl.length dc]) :
    Calls Try.prog 14 #[x.val, .agg #[.slice A ys.length ca, .slice B gs.length cb], .slice D bl.length dc] w fun e w' => CrashIs w.heap.size x ys gs bl e w' ∧ Below w.heap.size w w' := by
  have HPC : Hid (∀ w', Below w.heap.size w w' → Calls Try.prog 40 #[x.val, .agg #[.slice A ys.length ca, .slice B gs.length cb]] w' fun e w'' => YesNo (PlainOk x ys gs) e ∧ Below w'.heap.size w' w'') := fun w' bb => rpmay_any S x ys gs A ca B cb w' (hy.below bb) (hg.below bb)
  have HLF : Hid (PlainOk x ys gs → ∀ (k : Nat) (hk : k < ys.length), ∀ w', Below w.heap.size w w' → ∀ (D : Option Addr) (dc : Nat) (bs : List UInt8), Bs w' D bs.length bs → Calls Try.prog 41 #[.agg #[.slice A ys.length ca, .slice B gs.length cb], .int .i64 (k : Int), .slice D bs.length dc] w' fun e w'' => YesNo (LeftP ys gs k bs) e ∧ Below w'.heap.size w' w'') := fun hp k hk w' bb D dc bs hd => rleft_any S ys gs A ca B cb k hk hp.short hp.fit D bs.length dc bs w' (hy.below bb) (hg.below bb) hd
  have HD := Lib.hid hd
  have HDM := Lib.hid (val_max hd)
  have hdz : Hid (bl.length * 24 ≤ 140737488355328) := by
    obtain ⟨_, _, _, _, h1, _⟩ := view2 hd
    exact h1
  obtain ⟨il, hil, hl0, hl1, hl2⟩ := minfo_lists
  obtain ⟨iu, hu, hu0, hu1, hu2⟩ := minfo_u8
  clear hy hg hd
  obtain ⟨id, m, c, r, l, h⟩ := x
  unfold Cfg.val at *
  dsimp only at *
  have C0 := BoxOf.alloc (BoxOf.alloc (BoxOf.new w #[.int .u32 (id : Int), .int .i64 m, .int .i64 c, .int .i64 r, .int .i64 l, .int .i64 h] 24) (.cells #[.slice A ys.length ca, .slice B gs.length cb] 28)) (.cells #[.slice none 0 0, .slice none 0 0] 28)
  have P0 := BoxOf.alloc (BoxOf.new' (w.alloc (.cells #[.int .u32 (id : Int), .int .i64 m, .int .i64 c, .int .i64 r, .int .i64 l, .int .i64 h] 24)) (w.heap.size + 1) #[.slice A ys.length ca, .slice B gs.length cb] 28 (by simp)) (.cells #[.slice none 0 0, .slice none 0 0] 28)
  have Z0 := BoxOf.new' ((w.alloc (.cells #[.int .u32 (id : Int), .int .i64 m, .int .i64 c, .int .i64 r, .int .i64 l, .int .i64 h] 24)).alloc (.cells #[.slice A ys.length ca, .slice B gs.length cb] 28)) (w.heap.size + 2) #[.slice none 0 0, .slice none 0 0] 28 (by simp)
  have t0 := Ext.alloc (Ext.alloc (Ext.alloc (Below.refl w.heap.size w) (.cells #[.int .u32 (id : Int), .int .i64 m, .int .i64 c, .int .i64 r, .int .i64 l, .int .i64 h] 24)) (.cells #[.slice A ys.length ca, .slice B gs.length cb] 28)) (.cells #[.slice none 0 0, .slice none 0 0] 28)
  go_enter Try.func14, Try.ntmps14
  go_upto_region 1 with fail
  generalize ((w.alloc (.cells #[.int .u32 (id : Int), .int .i64 m, .int .i64 c, .int .i64 r, .int .i64 l, .int .i64 h] 24)).alloc (.cells #[.slice A ys.length ca, .slice B gs.length cb] 28)).alloc (.cells #[.slice none 0 0, .slice none 0 0] 28) = W at *
  have x0 := C0.cell
  have y0 := P0.cell
  go_wp2_with fail
  refine (HPC.out _ t0).mono ?_
  rintro e w1 ⟨h1, b1⟩
  have P1 := P0.next b1
  have Z1 := Z0.next b1
  have t1 := Ext.trans t0 b1
  have x1 := P1.cell
  have f1 := Z1.free
  have z1 := Z1.cell
  clear x0 y0 C0
  rcases h1.or with ⟨hok, rfl⟩ | ⟨hno, rfl⟩
  · have HOK := Lib.hid hok
    clear hok
    rcases Bool.eq_false_or_eq_true ((bl.length : Int) != (ys.length : Int)) with e1 | e1
    · go_wp2
      have B5 : BoxOf _ (w.heap.size + 1 + 1) #[.slice none 0 0, .slice none 0 0] 28 := mbox_self (mbox_self Z1 0 (.slice none 0 0)) 1 (.slice none 0 0)
      have T5 := Below.setCell (p := ⟨w.heap.size + 1 + 1, 1, none⟩) (Below.setCell (p := ⟨w.heap.size + 1 + 1, 0, none⟩) t1 (show w.heap.size ≤ w.heap.size + 1 + 1 by omega) (.slice none 0 0)) (show w.heap.size ≤ w.heap.size + 1 + 1 by omega) (.slice none 0 0)
      exact bodyPost_ret (v := .tuple #[.agg #[.slice none 0 0, .slice none 0 0], .int .i64 2]) (Eq.trans (results_row2 (P := Try.prog) (fn := Try.f14) (p := 6) (u := 7) (ty := 28) rfl _ _ (w.heap.size + 1 + 1) 28 #[.slice none 0 0, .slice none 0 0] (0, 0) _ rfl B5 Try.underlying28 rfl (by kernel_rfl)) rfl) rfl ⟨CrashIs.err (.inr (.inl ⟨HOK.out, by intro h9; rw [h9] at e1; simp at e1, rfl⟩)) (by decide), T5⟩
    · have HLE : Hid (bl.length = ys.length) := by have h9 : (bl.length : Int) = (ys.length : Int) := (by simpa using e1)
                                                   show _ = _
                                                   omega
      go_wp2
      clear e1
      go_loopw [8] (fun i wr => ∃ (j : Nat), j ≤ bl.length ∧ i = .int .i64 j ∧ Below w1.heap.size w1 wr ∧ Hid (∀ i (h : i < bl.length), i < j → (bl[i]).length = 128)) (fun i _ => bl.length - (intOf i).toNat)
      case atStart => exact ⟨0, by omega, rfl, Below.refl _ _, fun i h h' => absurd h' (Nat.not_lt_zero _)⟩
      case round =>
        obtain ⟨j, hj, rfl, b2, HA⟩ := hrel
        have P2 := P1.next b2
        have Z2 := Z1.next b2
        have t2 := Ext.trans t1 b2
        have x2 := P2.cell
        have f2 := Z2.free
        have z2 := Z2.cell
        clear x1 f1 z1
        by_cases hlt : j < bl.length
        · obtain ⟨b6, off6, A5, c5, rfl, q5, r5⟩ := val_at (HD.out.below t2) hlt
          have HLN : Hid ((bl[j]).length = 128 → ∀ i (h : i < bl.length), i < j + 1 → (bl[i]).length = 128) := fun hl i hi hi' => by
            by_cases h : i = j
            · subst h; exact hl
            · exact HA.out i hi (by omega)
          have HNL : Hid (¬ (bl[j]).length = 128 → ∃ i, ∃ h : i < bl.length, ¬ (bl[i]).length = 128) := fun hl => ⟨j, hlt, hl⟩
          generalize bl[j] = bs at *
          have HWJ := next_wrap HDM.out hlt
          have HLJ := Lib.hid hlt
          clear r5
          rcases Bool.eq_false_or_eq_true ((bs.length : Int) != 128) with e3 | e3
          · go_wp2
            have B5 : BoxOf _ (w.heap.size + 1 + 1) #[.slice none 0 0, .slice none 0 0] 28 := mbox_self (mbox_self Z2 0 (.slice none 0 0)) 1 (.slice none 0 0)
            have T5 := Below.setCell (p := ⟨w.heap.size + 1 + 1, 1, none⟩) (Below.setCell (p := ⟨w.heap.size + 1 + 1, 0, none⟩) t2 (show w.heap.size ≤ w.heap.size + 1 + 1 by omega) (.slice none 0 0)) (show w.heap.size ≤ w.heap.size + 1 + 1 by omega) (.slice none 0 0)
            exact bodyPost_ret (v := .tuple #[.agg #[.slice none 0 0, .slice none 0 0], .int .i64 3]) (Eq.trans (results_row2 (P := Try.prog) (fn := Try.f14) (p := 6) (u := 7) (ty := 28) rfl _ _ (w.heap.size + 1 + 1) 28 #[.slice none 0 0, .slice none 0 0] (0, 0) _ rfl B5 Try.underlying28 rfl (by kernel_rfl)) rfl) rfl ⟨CrashIs.err (.inr (.inr (.inl ⟨HOK.out, HLE.out, HNL.out (fun h9 => by rw [h9] at e3; simp at e3), rfl⟩))) (by decide), T5⟩
          · have HA' := Lib.hid (HLN.out (by have h9 : (bs.length : Int) = 128 := (by simpa using e3); omega))
            go_wp2
            go_roundw
            case rel => exact ⟨j + 1, HLJ.out, by first | exact round_same HWJ | go_num, b2, HA'⟩
            case measure => first | exact round_less HWJ HLJ.out | (have h := HLJ.out; simp [intOf]; omega)
        · have HALL : Hid (∀ i (h : i < bl.length), (bl[i]).length = 128) := fun i hi => HA.out i hi (by omega)
          have l2 := Z2.lt
          have N3 := BoxOf.new wr #[.slice none 0 0, .slice none 0 0] 28
          have P3 := P2.alloc (.cells #[.slice none 0 0, .slice none 0 0] 28)
          have Z3 := Z2.alloc (.cells #[.slice none 0 0, .slice none 0 0] 28)
          have t3 := Ext.alloc t2 (.cells #[.slice none 0 0, .slice none 0 0] 28)
          obtain ⟨g9, hg9⟩ : ∃ z : Nat, z = wr.heap.size := ⟨_, rfl⟩
          obtain ⟨base, hbase⟩ : ∃ z : Nat, z = g9 + 1 := ⟨_, rfl⟩
          have hb2 : base ≤ (wr.alloc (.cells #[.slice none 0 0, .slice none 0 0] 28)).heap.size := by simp; omega
          have hb1 : w.heap.size + 1 + 1 < g9 := by omega
          have HBS : Hid (base = g9 + 1 ∧ w.heap.size + 1 + 1 < g9 ∧ True) := ⟨hbase, hb1, trivial⟩
          have HB2 := Lib.hid hb2
          clear hbase hb1 l2 HA hb2
          go_upto_region 11 with fail
          clear hj hlt
          rw [← hg9] at N3 ⊢
          generalize wr.alloc (.cells #[.slice none 0 0, .slice none 0 0] 28) = w2 at *
          clear x2 f2 z2 P2 Z2 t2 b2 hg9
          go_wp2
          go_loopw [10] (fun i wr => ∃ (j : Nat) (v : Value), j ≤ bl.length ∧ i = .int .i64 j ∧ Below w.heap.size w wr ∧ BoxOf wr (w.heap.size + 1) #[.slice A ys.length ca, .slice B gs.length cb] 28 ∧ BoxOf wr (w.heap.size + 1 + 1) #[.slice none 0 0, .slice none 0 0] 28 ∧ BoxOf wr g9 #[v, .slice none 0 0] 28 ∧ OwnL wr base 30 (.sl (.sl .byte)) v (ones (bl.take j)) ∧ Hid (base ≤ wr.heap.size) ∧ Hid (∀ i (h : i < bl.length), i < j → LeftP ys gs i bl[i])) (fun i _ => bl.length - (intOf i).toNat)
          case atStart => exact ⟨0, .slice none 0 0, by omega, rfl, t3, P3, Z3, N3, OwnL.nil _ _ _ _, HB2, fun i h h' => absurd h' (Nat.not_lt_zero _)⟩
          case round =>
            clear t3 P3 Z3 N3
            obtain ⟨j, v, hj, rfl, t3, P3, Z3, N3, O3, HB3, HA⟩ := hrel
            by_cases hlt : j < bl.length
            · obtain ⟨b6, off6, A5, c5, rfl, q5, r5⟩ := val_at (HD.out.below t3) hlt
              have HQB : Hid (b6 < w.heap.size) := by
                obtain ⟨b7, off7, A7, c7, e7, q7, _⟩ := val_at HD.out hlt
                injection e7 with e7
                injection e7 with e71 e72
                subst e71
                exact block_lt_of_cell q7
              have HST := Lib.hid (ones_step hlt)
              have HLN : Hid (LeftP ys gs j bl[j] → ∀ i (h : i < bl.length), i < j + 1 → LeftP ys gs i bl[i]) := fun hl i hi hi' => by
                by_cases h : i = j
                · subst h; exact hl
                · exact HA.out i hi (by omega)
              have HNL : Hid (¬ LeftP ys gs j bl[j] → ∃ i, ∃ h : i < bl.length, ¬ LeftP ys gs i bl[i]) := fun hl => ⟨j, hlt, hl⟩
              generalize bl[j] = bs at *
              have HWJ := next_wrap HDM.out hlt
              have HLJ := Lib.hid hlt
              have HL : Hid (∀ w', Below wr.heap.size wr w' → Calls Try.prog 41 #[.agg #[.slice A ys.length ca, .slice B gs.length cb], .int .i64 (j : Int), .slice A5 bs.length c5] w' fun e w'' => YesNo (LeftP ys gs j bs) e ∧ Below w'.heap.size w' w'') := fun w' bb => HLF.out HOK.out j (by have := HLE.out; omega) w' (Ext.trans t3 bb) A5 c5 bs (r5.bytes_bs.below bb)
              have HR5 := Lib.hid r5
              clear r5 hj
              go_upto_region 14 with fail
              have HS : Hid (∀ w', Below wr.heap.size wr w' → (Below wr.heap.size wr w' ∧ (∀ o, w'.cell? ⟨w.heap.size + 1, o, none⟩ = #[.slice A ys.length ca, .slice B gs.length cb].toList[o]?) ∧ w'.cell? ⟨b6, off6 + j, none⟩ = some (.slice A5 bs.length c5))) := fun w' b => ⟨b, (P3.next b).cell, (b.cell (p := ⟨b6, off6 + j, none⟩) (block_lt_of_cell q5)).trans q5⟩
              refine wp_region_held_drew (S := fun w' => Below wr.heap.size wr w' ∧ (∀ o, w'.cell? ⟨w.heap.size + 1, o, none⟩ = #[.slice A ys.length ca, .slice B gs.length cb].toList[o]?) ∧ w'.cell? ⟨b6, off6 + j, none⟩ = some (.slice A5 bs.length c5)) (by kernel_rfl) (HS.out _ (Ext.drew (Below.refl _ _))) (fun hS => ?_)
              refine wpAnyH_take (i := 0) (oi := _) (v := ?_) rfl (by kernel_rfl) (by kernel_rfl) (by kernel_rfl) (fun _ _ _ h => h) (Or.inl ⟨by rfl, ?_⟩) hS ?_
              rotate_left
              · (intro w hSw; (try dsimp only at hSw); go_simp; (try with_reducible rfl))
              rotate_left
              simp only [Act.put, List.getElem_toArray, List.getElem_cons_zero, List.getElem_cons_succ, List.setIfInBounds_toArray, List.set_cons_zero, List.set_cons_succ]
              refine wpAnyH_take (i := 1) (oi := _) (v := ?_) rfl (by kernel_rfl) (by kernel_rfl) (by kernel_rfl) (fun _ _ _ h => h) (Or.inl ⟨by rfl, ?_⟩) hS ?_
              rotate_left
              · (intro w hSw; (try dsimp only at hSw); go_simp; (try with_reducible rfl))
              rotate_left
              simp only [Act.put, List.getElem_toArray, List.getElem_cons_zero, List.getElem_cons_succ, List.setIfInBounds_toArray, List.set_cons_zero, List.set_cons_succ]
              refine wpAnyH_take (i := 2) (oi := _) (v := ?_) rfl (by kernel_rfl) (by kernel_rfl) (by kernel_rfl) (fun _ _ _ h => h) (Or.inl ⟨by rfl, ?_⟩) hS ?_
              rotate_left
              · (intro w hSw; (try dsimp only at hSw); go_simp; (try with_reducible rfl))
              rotate_left
              simp only [Act.put, List.getElem_toArray, List.getElem_cons_zero, List.getElem_cons_succ, List.setIfInBounds_toArray, List.set_cons_zero, List.set_cons_succ]
              refine wpAnyH_take (i := 3) (oi := _) (v := ?_) rfl (by kernel_rfl) (by kernel_rfl) (by kernel_rfl) (fun _ _ _ h => h) (Or.inl ⟨by rfl, ?_⟩) hS ?_
              rotate_left
              · (intro w hSw; (try dsimp only at hSw); go_simp; (try with_reducible rfl))
              rotate_left
              simp only [Act.put, List.getElem_toArray, List.getElem_cons_zero, List.getElem_cons_succ, List.setIfInBounds_toArray, List.set_cons_zero, List.set_cons_succ]
              refine wpAnyH_take (i := 4) (oi := _) (v := ?_) rfl (by kernel_rfl) (by kernel_rfl) (by kernel_rfl) (fun _ _ _ h => h) (Or.inl ⟨by rfl, ?_⟩) hS ?_
              rotate_left
              · (intro w hSw; (try dsimp only at hSw); go_simp; (try with_reducible rfl))
              rotate_left
              simp only [Act.put, List.getElem_toArray, List.getElem_cons_zero, List.getElem_cons_succ, List.setIfInBounds_toArray, List.set_cons_zero, List.set_cons_succ]
              refine wpAnyH_take (i := 5) (oi := _) (v := ?_) rfl (by kernel_rfl) (by kernel_rfl) (by kernel_rfl) (fun _ _ _ h => h) (Or.inl ⟨by rfl, ?_⟩) hS ?_
              rotate_left
              · (intro w hSw; (try dsimp only at hSw); go_simp; (try with_reducible rfl))
              rotate_left
              simp only [Act.put, List.getElem_toArray, List.getElem_cons_zero, List.getElem_cons_succ, List.setIfInBounds_toArray, List.set_cons_zero, List.set_cons_succ]
              refine wpAnyH_ready (rs := [6]) (by kernel_rfl) (by simp) ?_
              refine AllReadyH.cons rfl (fun K hK => ?_) AllReadyH.nil
              rw [if_pos (by rfl)]
              go_simp
              refine (HL.out _ hS.1).mono ?_
              rintro e w4 ⟨⟨bt, rfl, hbt⟩, k4⟩
              have HBT := Lib.hid hbt
              clear hbt
              refine hK.out _ _ (HS.out _ (Ext.trans hS.1 k4)) (fun hS' => ?_)
              clear hK K hS k4
              have hS := hS'
              clear hS'
              try simp only [Act.put, List.getElem_toArray, List.getElem_cons_zero, List.getElem_cons_succ, List.setIfInBounds_toArray, List.set_cons_zero, List.set_cons_succ]
              refine wpAnyH_take (i := 7) (oi := _) (v := ?_) rfl (by kernel_rfl) (by kernel_rfl) (by kernel_rfl) (fun _ _ _ h => h) (Or.inl ⟨by rfl, ?_⟩) hS ?_
              rotate_left
              · (intro w hSw; (try dsimp only at hSw); go_simp; (try with_reducible rfl))
              rotate_left
              simp only [Act.put, List.getElem_toArray, List.getElem_cons_zero, List.getElem_cons_succ, List.setIfInBounds_toArray, List.set_cons_zero, List.set_cons_succ]
              refine wpAnyH_done (by kernel_rfl) ?_ _
              have b4 := hS.1
              have HQ4 := Lib.hid hS.2.2
              clear hS HS
              have P4 := P3.next b4
              have Z4 := Z3.next b4
              have N4 := N3.next b4
              have O4 := O3.next b4
              have t4 := Ext.trans t3 b4
              have r4 := HR5.out.below b4
              have HR4 := Lib.hid r4
              have HB4 : Hid (base ≤ w4.heap.size) := Nat.le_trans HB3.out b4.size
              clear r4 P3 Z3 N3 O3 t3 q5 HL HR5 b4
              cases bt with
              | false =>
                have f4 := Z4.free
                have z4 := Z4.cell
                go_wp2
                have B5 : BoxOf _ (w.heap.size + 1 + 1) #[.slice none 0 0, .slice none 0 0] 28 := mbox_self (mbox_self Z4 0 (.slice none 0 0)) 1 (.slice none 0 0)
                have T5 := Below.setCell (p := ⟨w.heap.size + 1 + 1, 1, none⟩) (Below.setCell (p := ⟨w.heap.size + 1 + 1, 0, none⟩) t4 (show w.heap.size ≤ w.heap.size + 1 + 1 by omega) (.slice none 0 0)) (show w.heap.size ≤ w.heap.size + 1 + 1 by omega) (.slice none 0 0)
                exact bodyPost_ret (v := .tuple #[.agg #[.slice none 0 0, .slice none 0 0], .int .i64 8]) (Eq.trans (results_row2 (P := Try.prog) (fn := Try.f14) (p := 6) (u := 7) (ty := 28) rfl _ _ (w.heap.size + 1 + 1) 28 #[.slice none 0 0, .slice none 0 0] (0, 0) _ rfl B5 Try.underlying28 rfl (by kernel_rfl)) rfl) rfl ⟨CrashIs.err (.inr (.inr (.inr (.inl ⟨HOK.out, HLE.out, HALL.out, HNL.out (fun h9 => by have := HBT.out.2 h9; cases this), rfl⟩)))) (by decide), T5⟩
              | true =>
                have HA' := Lib.hid (HLN.out (HBT.out.1 (by first | rfl | trivial)))
                have HBY : Hid ((ones (bl.take j)).length + 1 ≤ maxLen ∧ ((ones (bl.take j)).length + 1) * 24 ≤ 140737488355328) := by
                  have h1 := HDM.out
                  have h2 := hdz.out
                  have h3 := HLJ.out
                  show _ ∧ _
                  rw [ones_len, List.length_take]
                  omega
                have HTL : Hid (∀ (A : Option Addr) (c : Nat), Value.slice A ((ones (bl.take j)) ++ [[bs]]).length c = Value.slice A (j + 1) c) := fun A c => by
                  have h3 := HLJ.out
                  rw [List.length_append, ones_len, List.length_take, Nat.min_eq_left (by omega)]
                  rfl
                go_upto_region 16 with fail
                have P5 := P4.drew
                have N5 := N4.drew
                have Z5 := Z4.drew
                have O5 := O4.next (Ext.drew (Below.refl w4.heap.size w4))
                have t5 := Ext.drew t4
                have n5 : base ≤ w4.drew.heap.size := HB4.out
                have R5 := HR4.out.below (Ext.drew (Below.refl w4.heap.size w4))
                have q5 : w4.drew.cell? ⟨b6, off6 + j, none⟩ = some (.slice A5 bs.length c5) := HQ4.out
                refine wp_region_held_drew (S := fun w' => BoxOf w' (w.heap.size + 1) #[.slice A ys.length ca, .slice B gs.length cb] 28 ∧ w'.cell? ⟨b6, off6 + j, none⟩ = some (.slice A5 bs.length c5)) (by kernel_rfl) ⟨P5, q5⟩ (fun hS => ?_)
                clear P4 N4 Z4 O4 t4
                generalize w4.drew = wd at *
                refine wpAnyH_take (i := 0) (oi := _) (v := ?_) rfl (by kernel_rfl) (by kernel_rfl) (by kernel_rfl) (fun _ _ _ h => h) (Or.inl ⟨by rfl, ?_⟩) hS ?_
                rotate_left
                · (intro w hSw; (try dsimp only at hSw); go_simp; (try with_reducible rfl))
                rotate_left
                simp only [Act.put, List.getElem_toArray, List.getElem_cons_zero, List.getElem_cons_succ, List.setIfInBounds_toArray, List.set_cons_zero, List.set_cons_succ]
                refine wpAnyH_take (i := 2) (oi := _) (v := ?_) rfl (by kernel_rfl) (by kernel_rfl) (by kernel_rfl) (fun _ _ _ h => h) (Or.inl ⟨by rfl, ?_⟩) hS ?_
                rotate_left
                · (intro w hSw; (try dsimp only at hSw); go_simp; (try with_reducible rfl))
                rotate_left
                simp only [Act.put, List.getElem_toArray, List.getElem_cons_zero, List.getElem_cons_succ, List.setIfInBounds_toArray, List.set_cons_zero, List.set_cons_succ]
                refine wpAnyH_take (i := 3) (oi := _) (v := ?_) rfl (by kernel_rfl) (by kernel_rfl) (by kernel_rfl) (fun _ _ _ h => h) (Or.inl ⟨by rfl, ?_⟩) hS ?_
                rotate_left
                · (intro w hSw; (try dsimp only at hSw); go_simp; (try with_reducible rfl))
                rotate_left
                simp only [Act.put, List.getElem_toArray, List.getElem_cons_zero, List.getElem_cons_succ, List.setIfInBounds_toArray, List.set_cons_zero, List.set_cons_succ]
                refine wpAnyH_take (i := 4) (oi := _) (v := ?_) rfl (by kernel_rfl) (by kernel_rfl) (by kernel_rfl) (fun _ _ _ h => h) (Or.inl ⟨by rfl, ?_⟩) hS ?_
                rotate_left
                · (intro w hSw; (try dsimp only at hSw); go_simp; (try with_reducible rfl))
                rotate_left
                simp only [Act.put, List.getElem_toArray, List.getElem_cons_zero, List.getElem_cons_succ, List.setIfInBounds_toArray, List.set_cons_zero, List.set_cons_succ]
                refine wpAnyH_take (i := 5) (oi := _) (v := ?_) rfl (by kernel_rfl) (by kernel_rfl) (by kernel_rfl) (fun _ _ _ h => h) (Or.inl ⟨by rfl, ?_⟩) hS ?_
                rotate_left
                · (intro w hSw; (try dsimp only at hSw); go_simp; (try with_reducible rfl))
                rotate_left
                simp only [Act.put, List.getElem_toArray, List.getElem_cons_zero, List.getElem_cons_succ, List.setIfInBounds_toArray, List.set_cons_zero, List.set_cons_succ]
                refine wpAnyH_ready (rs := [1, 6]) (by kernel_rfl) (by simp) ?_
                refine AllReadyH.cons rfl (fun K hK => ?_) (AllReadyH.cons rfl (fun K hK => ?_) AllReadyH.nil)
                · rw [if_pos (by rfl)]
                  have yQ := N5.cell
                  go_simp
                  refine hK.out _ _ ⟨P5, q5⟩ (fun hS' => ?_)
                  clear yQ hK K hS
                  have hS := hS'
                  clear hS'
                  try simp only [Act.put, List.getElem_toArray, List.getElem_cons_zero, List.getElem_cons_succ, List.setIfInBounds_toArray, List.set_cons_zero, List.set_cons_succ]
                  refine wpAnyH_ready (rs := [6]) (by kernel_rfl) (by simp) ?_
                  refine AllReadyH.cons rfl (fun K hK => ?_) AllReadyH.nil
                  rw [if_pos (by rfl)]
                  refine wp_copyL (.const (.slice none 0 0)) (.tmp 56) 29 rfl 5 iu _ .byte rfl Try.underlying29 hu hu0 hu1 hu2 rfl rfl S bs A5 bs.length c5 rfl R5 ?_
                  intro vb v5 r6 bb
                  obtain ⟨A6, c6, rfl⟩ := bytesV r6
                  have F6 := own_apart r6 (OwnL.lt O5) n5
                  clear R5 r6
                  have P9 := P5.next bb
                  have N9 := N5.next bb
                  have Z9 := Z5.next bb
                  have O9 := O5.next bb
                  have t9 := Ext.trans t5 bb
                  have n9 := Nat.le_trans n5 bb.size
                  have q9 := (bb.cell (p := ⟨b6, off6 + j, none⟩) (block_lt_of_cell q5)).trans q5
                  refine hK.out _ _ ⟨P9, q9⟩ (fun hS' => ?_)
                  clear P5 N5 Z5 O5 t5 n5 q5 hK K hS
                  have P5 := P9
                  have N5 := N9
                  have Z5 := Z9
                  have O5 := O9
                  have t5 := t9
                  have n5 := n9
                  have q5 := q9
                  have hS := hS'
                  clear hS' P9 N9 Z9 O9 t9 n9 q9
                  try simp only [Act.put, List.getElem_toArray, List.getElem_cons_zero, List.getElem_cons_succ, List.setIfInBounds_toArray, List.set_cons_zero, List.set_cons_succ]
                  clear bb
                  refine wpAnyH_ready (rs := [7]) (by kernel_rfl) (by simp) ?_
                  refine AllReadyH.cons rfl (fun K hK => ?_) AllReadyH.nil
                  rw [if_pos (by rfl)]
                  go_simp
                  have bb := Ext.alloc (Below.refl v5.heap.size v5) (.cells #[.slice A6 bs.length c6] 29)
                  have F7 := one_list (OwnL.lt O5) n5 F6 29
                  clear F6
                  obtain ⟨g7, hg7⟩ : ∃ z : Nat, z = v5.heap.size := ⟨_, rfl⟩
                  rw [← hg7] at F7
                  have P9 := P5.next bb
                  have N9 := N5.next bb
                  have Z9 := Z5.next bb
                  have O9 := O5.next bb
                  have t9 := Ext.trans t5 bb
                  have n9 := Nat.le_trans n5 bb.size
                  have q9 := (bb.cell (p := ⟨b6, off6 + j, none⟩) (block_lt_of_cell q5)).trans q5
                  refine hK.out _ _ ⟨P9, q9⟩ (fun hS' => ?_)
                  clear P5 N5 Z5 O5 t5 n5 q5 hK K hS
                  have P5 := P9
                  have N5 := N9
                  have Z5 := Z9
                  have O5 := O9
                  have t5 := t9
                  have n5 := n9
                  have q5 := q9
                  have hS := hS'
                  clear hS' P9 N9 Z9 O9 t9 n9 q9
                  try simp only [Act.put, List.getElem_toArray, List.getElem_cons_zero, List.getElem_cons_succ, List.setIfInBounds_toArray, List.set_cons_zero, List.set_cons_succ]
                  clear bb
                  rw [← hg7]
                  clear hg7
                  generalize v5.alloc (.cells #[.slice A6 bs.length c6] 29) = v7 at *
                  refine wpAnyH_ready (rs := [8]) (by kernel_rfl) (by simp) ?_
                  refine AllReadyH.cons rfl (fun K hK => ?_) AllReadyH.nil
                  rw [if_pos (by rfl)]
                  go_simp
                  have bb := Ext.alloc (Below.refl v7.heap.size v7) (.cells #[.slice (some ⟨g7, 0, none⟩) 1 1] 30)
                  have rd8 := rd_row v7 #[.slice (some ⟨g7, 0, none⟩) 1 1] 30
                  have F8 := (F7.below bb).mono (fun b hb => Fresh.next hb bb)
                  clear F7
                  obtain ⟨g8, hg8⟩ : ∃ z : Nat, z = v7.heap.size := ⟨_, rfl⟩
                  rw [← hg8] at rd8
                  have P9 := P5.next bb
                  have N9 := N5.next bb
                  have Z9 := Z5.next bb
                  have O9 := O5.next bb
                  have t9 := Ext.trans t5 bb
                  have n9 := Nat.le_trans n5 bb.size
                  have q9 := (bb.cell (p := ⟨b6, off6 + j, none⟩) (block_lt_of_cell q5)).trans q5
                  refine hK.out _ _ ⟨P9, q9⟩ (fun hS' => ?_)
                  clear P5 N5 Z5 O5 t5 n5 q5 hK K hS
                  have P5 := P9
                  have N5 := N9
                  have Z5 := Z9
                  have O5 := O9
                  have t5 := t9
                  have n5 := n9
                  have q5 := q9
                  have hS := hS'
                  clear hS' P9 N9 Z9 O9 t9 n9 q9
                  try simp only [Act.put, List.getElem_toArray, List.getElem_cons_zero, List.getElem_cons_succ, List.setIfInBounds_toArray, List.set_cons_zero, List.set_cons_succ]
                  clear bb
                  rw [← hg8]
                  clear hg8
                  generalize v7.alloc (.cells #[.slice (some ⟨g7, 0, none⟩) 1 1] 30) = v8 at *
                  refine wpAnyH_ready (rs := [9]) (by kernel_rfl) (by simp) ?_
                  refine AllReadyH.cons rfl (fun K hK => ?_) AllReadyH.nil
                  rw [if_pos (by rfl)]
                  refine wp_push (.tmp 52) (.tmp 59) 25 rfl base 30 il _ 24 (.sl (.sl .byte)) Try.underlying25 hil hl0 hl1 hl2 rfl (by decide) v (ones (bl.take j)) rfl O5 (some ⟨g8, 0, none⟩) 1 _ rfl rd8 _ F8 HBY.out.1 HBY.out.2 n5 ?_
                  intro u9 w9 O9 gr9 k9
                  obtain ⟨hb3, hb4, hb5⟩ := HBS.out
                  have P9 := P5.grown gr9 (fun e => by have := k9 _ e; omega)
                  have N9 := N5.grown gr9 (fun e => by have := k9 _ e; omega)
                  have Z9 := Z5.grown gr9 (fun e => by have := k9 _ e; omega)
                  have t9 := Below.grown t5 gr9 t5.size (fun r e => by have := k9 r e; omega)
                  have n9 := Nat.le_trans n5 gr9.size
                  have q9 := gr9.cell q5 (fun e => by have h9 : base ≤ b6 := k9 _ e.symm; have h8 : b6 < w.heap.size := HQB.out; omega)
                  refine hK.out _ _ ⟨P9, q9⟩ (fun hS' => ?_)
                  clear P5 N5 Z5 O5 t5 n5 k9 gr9 F8 rd8 hK K hS q5
                  have hS := hS'
                  clear hS'
                  obtain ⟨A10, c10, e10⟩ := OwnL.slice O9
                  have e11 := e10.trans (HTL.out A10 c10)
                  clear e10
                  subst e11
                  try simp only [Act.put, List.getElem_toArray, List.getElem_cons_zero, List.getElem_cons_succ, List.setIfInBounds_toArray, List.set_cons_zero, List.set_cons_succ]
                  refine wpAnyH_take (i := 10) (oi := _) (v := ?_) rfl (by kernel_rfl) (by kernel_rfl) (by kernel_rfl) (fun _ _ _ h => h) (Or.inl ⟨by rfl, ?_⟩) hS ?_
                  rotate_left
                  · (intro w hSw; (try dsimp only at hSw); go_simp; (try with_reducible rfl))
                  rotate_left
                  simp only [Act.put, List.getElem_toArray, List.getElem_cons_zero, List.getElem_cons_succ, List.setIfInBounds_toArray, List.set_cons_zero, List.set_cons_succ]
                  refine wpAnyH_ready (rs := [11]) (by kernel_rfl) (by simp) ?_
                  refine AllReadyH.cons rfl (fun K hK => ?_) AllReadyH.nil
                  rw [if_pos (by rfl)]
                  have fQ := N9.free
                  have yQ := N9.cell
                  go_simp
                  clear fQ yQ
                  have N10 : BoxOf _ g9 #[.slice A10 (j + 1) c10, .slice none 0 0] 28 := mbox_self N9 0 (.slice A10 (j + 1) c10)
                  have P10 := mbox_else P9 (show w.heap.size + 1 ≠ g9 by omega) 0 (.slice A10 (j + 1) c10)
                  have Z10 := mbox_else Z9 (show w.heap.size + 1 + 1 ≠ g9 by omega) 0 (.slice A10 (j + 1) c10)
                  have O10 := OwnL.setElse (k := g9) (OwnL.cast HST.out.symm O9) (by omega) 0 (.slice A10 (j + 1) c10)
                  have t10 := Below.setCell (p := ⟨g9, 0, none⟩) t9 (show w.heap.size ≤ g9 by omega) (.slice A10 (j + 1) c10)
                  have q10 := keep_cell2 q9 (show b6 ≠ g9 by have := HQB.out; omega) 0 (.slice A10 (j + 1) c10)
                  refine hK.out _ _ ⟨P10, q10⟩ (fun hS' => ?_)
                  clear hK K hS hS' N9 P9 Z9 O9 t9 q9 q10
                  try simp only [Act.put, List.getElem_toArray, List.getElem_cons_zero, List.getElem_cons_succ, List.setIfInBounds_toArray, List.set_cons_zero, List.set_cons_succ]
                  refine wpAnyH_done (by kernel_rfl) ?_ _
                  have HN9 : Hid (base ≤ w9.heap.size) := n9
                  have LJ := HLJ.out
                  clear n9 hb3 hb4 hb5
                  go_wp2
                  go_roundw
                  case rel => exact ⟨j + 1, _, LJ, by first | exact round_same HWJ | go_num, t10, P10, Z10, N10, O10, (show Hid (base ≤ _) from by show base ≤ _; rw [msize]; exact HN9.out), HA'⟩
                  case measure => first | exact round_less HWJ LJ | (have h := LJ; simp [intOf]; omega)
                · rw [if_pos (by rfl)]
                  refine wp_copyL (.const (.slice none 0 0)) (.tmp 56) 29 rfl 5 iu _ .byte rfl Try.underlying29 hu hu0 hu1 hu2 rfl rfl S bs A5 bs.length c5 rfl R5 ?_
                  intro vb v5 r6 bb
                  obtain ⟨A6, c6, rfl⟩ := bytesV r6
                  have F6 := own_apart r6 (OwnL.lt O5) n5
                  clear R5 r6
                  have P9 := P5.next bb
                  have N9 := N5.next bb
                  have Z9 := Z5.next bb
                  have O9 := O5.next bb
                  have t9 := Ext.trans t5 bb
                  have n9 := Nat.le_trans n5 bb.size
                  have q9 := (bb.cell (p := ⟨b6, off6 + j, none⟩) (block_lt_of_cell q5)).trans q5
                  refine hK.out _ _ ⟨P9, q9⟩ (fun hS' => ?_)
                  clear P5 N5 Z5 O5 t5 n5 q5 hK K hS
                  have P5 := P9
                  have N5 := N9
                  have Z5 := Z9
                  have O5 := O9
                  have t5 := t9
                  have n5 := n9
                  have q5 := q9
                  have hS := hS'
                  clear hS' P9 N9 Z9 O9 t9 n9 q9
                  try simp only [Act.put, List.getElem_toArray, List.getElem_cons_zero, List.getElem_cons_succ, List.setIfInBounds_toArray, List.set_cons_zero, List.set_cons_succ]
                  clear bb
                  refine wpAnyH_ready (rs := [1, 7]) (by kernel_rfl) (by simp) ?_
                  refine AllReadyH.cons rfl (fun K hK => ?_) (AllReadyH.cons rfl (fun K hK => ?_) AllReadyH.nil)
                  · rw [if_pos (by rfl)]
                    have yQ := N5.cell
                    go_simp
                    refine hK.out _ _ ⟨P5, q5⟩ (fun hS' => ?_)
                    clear yQ hK K hS
                    have hS := hS'
                    clear hS'
                    try simp only [Act.put, List.getElem_toArray, List.getElem_cons_zero, List.getElem_cons_succ, List.setIfInBounds_toArray, List.set_cons_zero, List.set_cons_succ]
                    refine wpAnyH_ready (rs := [7]) (by kernel_rfl) (by simp) ?_
                    refine AllReadyH.cons rfl (fun K hK => ?_) AllReadyH.nil
                    rw [if_pos (by rfl)]
                    go_simp
                    have bb := Ext.alloc (Below.refl v5.heap.size v5) (.cells #[.slice A6 bs.length c6] 29)
                    have F7 := one_list (OwnL.lt O5) n5 F6 29
                    clear F6
                    obtain ⟨g7, hg7⟩ : ∃ z : Nat, z = v5.heap.size := ⟨_, rfl⟩
                    rw [← hg7] at F7
                    have P9 := P5.next bb
                    have N9 := N5.next bb
                    have Z9 := Z5.next bb
                    have O9 := O5.next bb
                    have t9 := Ext.trans t5 bb
                    have n9 := Nat.le_trans n5 bb.size
                    have q9 := (bb.cell (p := ⟨b6, off6 + j, none⟩) (block_lt_of_cell q5)).trans q5
                    refine hK.out _ _ ⟨P9, q9⟩ (fun hS' => ?_)
                    clear P5 N5 Z5 O5 t5 n5 q5 hK K hS
                    have P5 := P9
                    have N5 := N9
                    have Z5 := Z9
                    have O5 := O9
                    have t5 := t9
                    have n5 := n9
                    have q5 := q9
                    have hS := hS'
                    clear hS' P9 N9 Z9 O9 t9 n9 q9
                    try simp only [Act.put, List.getElem_toArray, List.getElem_cons_zero, List.getElem_cons_succ, List.setIfInBounds_toArray, List.set_cons_zero, List.set_cons_succ]
                    clear bb
                    rw [← hg7]
                    clear hg7
                    generalize v5.alloc (.cells #[.slice A6 bs.length c6] 29) = v7 at *
                    refine wpAnyH_ready (rs := [8]) (by kernel_rfl) (by simp) ?_
                    refine AllReadyH.cons rfl (fun K hK => ?_) AllReadyH.nil
                    rw [if_pos (by rfl)]
                    go_simp
                    have bb := Ext.alloc (Below.refl v7.heap.size v7) (.cells #[.slice (some ⟨g7, 0, none⟩) 1 1] 30)
                    have rd8 := rd_row v7 #[.slice (some ⟨g7, 0, none⟩) 1 1] 30
                    have F8 := (F7.below bb).mono (fun b hb => Fresh.next hb bb)
                    clear F7
                    obtain ⟨g8, hg8⟩ : ∃ z : Nat, z = v7.heap.size := ⟨_, rfl⟩
                    rw [← hg8] at rd8
                    have P9 := P5.next bb
                    have N9 := N5.next bb
                    have Z9 := Z5.next bb
                    have O9 := O5.next bb
                    have t9 := Ext.trans t5 bb
                    have n9 := Nat.le_trans n5 bb.size
                    have q9 := (bb.cell (p := ⟨b6, off6 + j, none⟩) (block_lt_of_cell q5)).trans q5
                    refine hK.out _ _ ⟨P9, q9⟩ (fun hS' => ?_)
                    clear P5 N5 Z5 O5 t5 n5 q5 hK K hS
                    have P5 := P9
                    have N5 := N9
                    have Z5 := Z9
                    have O5 := O9
                    have t5 := t9
                    have n5 := n9
                    have q5 := q9
                    have hS := hS'
                    clear hS' P9 N9 Z9 O9 t9 n9 q9
                    try simp only [Act.put, List.getElem_toArray, List.getElem_cons_zero, List.getElem_cons_succ, List.setIfInBounds_toArray, List.set_cons_zero, List.set_cons_succ]
                    clear bb
                    rw [← hg8]
                    clear hg8
                    generalize v7.alloc (.cells #[.slice (some ⟨g7, 0, none⟩) 1 1] 30) = v8 at *
                    refine wpAnyH_ready (rs := [9]) (by kernel_rfl) (by simp) ?_
                    refine AllReadyH.cons rfl (fun K hK => ?_) AllReadyH.nil
                    rw [if_pos (by rfl)]
                    refine wp_push (.tmp 52) (.tmp 59) 25 rfl base 30 il _ 24 (.sl (.sl .byte)) Try.underlying25 hil hl0 hl1 hl2 rfl (by decide) v (ones (bl.take j)) rfl O5 (some ⟨g8, 0, none⟩) 1 _ rfl rd8 _ F8 HBY.out.1 HBY.out.2 n5 ?_
                    intro u9 w9 O9 gr9 k9
                    obtain ⟨hb3, hb4, hb5⟩ := HBS.out
                    have P9 := P5.grown gr9 (fun e => by have := k9 _ e; omega)
                    have N9 := N5.grown gr9 (fun e => by have := k9 _ e; omega)
                    have Z9 := Z5.grown gr9 (fun e => by have := k9 _ e; omega)
                    have t9 := Below.grown t5 gr9 t5.size (fun r e => by have := k9 r e; omega)
                    have n9 := Nat.le_trans n5 gr9.size
                    have q9 := gr9.cell q5 (fun e => by have h9 : base ≤ b6 := k9 _ e.symm; have h8 : b6 < w.heap.size := HQB.out; omega)
                    refine hK.out _ _ ⟨P9, q9⟩ (fun hS' => ?_)
                    clear P5 N5 Z5 O5 t5 n5 k9 gr9 F8 rd8 hK K hS q5
                    have hS := hS'
                    clear hS'
                    obtain ⟨A10, c10, e10⟩ := OwnL.slice O9
                    have e11 := e10.trans (HTL.out A10 c10)
                    clear e10
                    subst e11
                    try simp only [Act.put, List.getElem_toArray, List.getElem_cons_zero, List.getElem_cons_succ, List.setIfInBounds_toArray, List.set_cons_zero, List.set_cons_succ]
                    refine wpAnyH_take (i := 10) (oi := _) (v := ?_) rfl (by kernel_rfl) (by kernel_rfl) (by kernel_rfl) (fun _ _ _ h => h) (Or.inl ⟨by rfl, ?_⟩) hS ?_
                    rotate_left
                    · (intro w hSw; (try dsimp only at hSw); go_simp; (try with_reducible rfl))
                    rotate_left
                    simp only [Act.put, List.getElem_toArray, List.getElem_cons_zero, List.getElem_cons_succ, List.setIfInBounds_toArray, List.set_cons_zero, List.set_cons_succ]
                    refine wpAnyH_ready (rs := [11]) (by kernel_rfl) (by simp) ?_
                    refine AllReadyH.cons rfl (fun K hK => ?_) AllReadyH.nil
                    rw [if_pos (by rfl)]
                    have fQ := N9.free
                    have yQ := N9.cell
                    go_simp
                    clear fQ yQ
                    have N10 : BoxOf _ g9 #[.slice A10 (j + 1) c10, .slice none 0 0] 28 := mbox_self N9 0 (.slice A10 (j + 1) c10)
                    have P10 := mbox_else P9 (show w.heap.size + 1 ≠ g9 by omega) 0 (.slice A10 (j + 1) c10)
                    have Z10 := mbox_else Z9 (show w.heap.size + 1 + 1 ≠ g9 by omega) 0 (.slice A10 (j + 1) c10)
                    have O10 := OwnL.setElse (k := g9) (OwnL.cast HST.out.symm O9) (by omega) 0 (.slice A10 (j + 1) c10)
                    have t10 := Below.setCell (p := ⟨g9, 0, none⟩) t9 (show w.heap.size ≤ g9 by omega) (.slice A10 (j + 1) c10)
                    have q10 := keep_cell2 q9 (show b6 ≠ g9 by have := HQB.out; omega) 0 (.slice A10 (j + 1) c10)
                    refine hK.out _ _ ⟨P10, q10⟩ (fun hS' => ?_)
                    clear hK K hS hS' N9 P9 Z9 O9 t9 q9 q10
                    try simp only [Act.put, List.getElem_toArray, List.getElem_cons_zero, List.getElem_cons_succ, List.setIfInBounds_toArray, List.set_cons_zero, List.set_cons_succ]
                    refine wpAnyH_done (by kernel_rfl) ?_ _
                    have HN9 : Hid (base ≤ w9.heap.size) := n9
                    have LJ := HLJ.out
                    clear n9 hb3 hb4 hb5
                    go_wp2
                    go_roundw
                    case rel => exact ⟨j + 1, _, LJ, by first | exact round_same HWJ | go_num, t10, P10, Z10, N10, O10, (show Hid (base ≤ _) from by show base ≤ _; rw [msize]; exact HN9.out), HA'⟩
                    case measure => first | exact round_less HWJ LJ | (have h := LJ; simp [intOf]; omega)
                  · rw [if_pos (by rfl)]
                    go_simp
                    have bb := Ext.alloc (Below.refl v5.heap.size v5) (.cells #[.slice A6 bs.length c6] 29)
                    have F7 := one_list (OwnL.lt O5) n5 F6 29
                    clear F6
                    obtain ⟨g7, hg7⟩ : ∃ z : Nat, z = v5.heap.size := ⟨_, rfl⟩
                    rw [← hg7] at F7
                    have P9 := P5.next bb
                    have N9 := N5.next bb
                    have Z9 := Z5.next bb
                    have O9 := O5.next bb
                    have t9 := Ext.trans t5 bb
                    have n9 := Nat.le_trans n5 bb.size
                    have q9 := (bb.cell (p := ⟨b6, off6 + j, none⟩) (block_lt_of_cell q5)).trans q5
                    refine hK.out _ _ ⟨P9, q9⟩ (fun hS' => ?_)
                    clear P5 N5 Z5 O5 t5 n5 q5 hK K hS
                    have P5 := P9
                    have N5 := N9
                    have Z5 := Z9
                    have O5 := O9
                    have t5 := t9
                    have n5 := n9
                    have q5 := q9
                    have hS := hS'
                    clear hS' P9 N9 Z9 O9 t9 n9 q9
                    try simp only [Act.put, List.getElem_toArray, List.getElem_cons_zero, List.getElem_cons_succ, List.setIfInBounds_toArray, List.set_cons_zero, List.set_cons_succ]
                    clear bb
                    rw [← hg7]
                    clear hg7
                    generalize v5.alloc (.cells #[.slice A6 bs.length c6] 29) = v7 at *
                    refine wpAnyH_ready (rs := [1, 8]) (by kernel_rfl) (by simp) ?_
                    refine AllReadyH.cons rfl (fun K hK => ?_) (AllReadyH.cons rfl (fun K hK => ?_) AllReadyH.nil)
                    · rw [if_pos (by rfl)]
                      have yQ := N5.cell
                      go_simp
                      refine hK.out _ _ ⟨P5, q5⟩ (fun hS' => ?_)
                      clear yQ hK K hS
                      have hS := hS'
                      clear hS'
                      try simp only [Act.put, List.getElem_toArray, List.getElem_cons_zero, List.getElem_cons_succ, List.setIfInBounds_toArray, List.set_cons_zero, List.set_cons_succ]
                      refine wpAnyH_ready (rs := [8]) (by kernel_rfl) (by simp) ?_
                      refine AllReadyH.cons rfl (fun K hK => ?_) AllReadyH.nil
                      rw [if_pos (by rfl)]
                      go_simp
                      have bb := Ext.alloc (Below.refl v7.heap.size v7) (.cells #[.slice (some ⟨g7, 0, none⟩) 1 1] 30)
                      have rd8 := rd_row v7 #[.slice (some ⟨g7, 0, none⟩) 1 1] 30
                      have F8 := (F7.below bb).mono (fun b hb => Fresh.next hb bb)
                      clear F7
                      obtain ⟨g8, hg8⟩ : ∃ z : Nat, z = v7.heap.size := ⟨_, rfl⟩
                      rw [← hg8] at rd8
                      have P9 := P5.next bb
                      have N9 := N5.next bb
                      have Z9 := Z5.next bb
                      have O9 := O5.next bb
                      have t9 := Ext.trans t5 bb
                      have n9 := Nat.le_trans n5 bb.size
                      have q9 := (bb.cell (p := ⟨b6, off6 + j, none⟩) (block_lt_of_cell q5)).trans q5
                      refine hK.out _ _ ⟨P9, q9⟩ (fun hS' => ?_)
                      clear P5 N5 Z5 O5 t5 n5 q5 hK K hS
                      have P5 := P9
                      have N5 := N9
                      have Z5 := Z9
                      have O5 := O9
                      have t5 := t9
                      have n5 := n9
                      have q5 := q9
                      have hS := hS'
                      clear hS' P9 N9 Z9 O9 t9 n9 q9
                      try simp only [Act.put, List.getElem_toArray, List.getElem_cons_zero, List.getElem_cons_succ, List.setIfInBounds_toArray, List.set_cons_zero, List.set_cons_succ]
                      clear bb
                      rw [← hg8]
                      clear hg8
                      generalize v7.alloc (.cells #[.slice (some ⟨g7, 0, none⟩) 1 1] 30) = v8 at *
                      refine wpAnyH_ready (rs := [9]) (by kernel_rfl) (by simp) ?_
                      refine AllReadyH.cons rfl (fun K hK => ?_) AllReadyH.nil
                      rw [if_pos (by rfl)]
                      refine wp_push (.tmp 52) (.tmp 59) 25 rfl base 30 il _ 24 (.sl (.sl .byte)) Try.underlying25 hil hl0 hl1 hl2 rfl (by decide) v (ones (bl.take j)) rfl O5 (some ⟨g8, 0, none⟩) 1 _ rfl rd8 _ F8 HBY.out.1 HBY.out.2 n5 ?_
                      intro u9 w9 O9 gr9 k9
                      obtain ⟨hb3, hb4, hb5⟩ := HBS.out
                      have P9 := P5.grown gr9 (fun e => by have := k9 _ e; omega)
                      have N9 := N5.grown gr9 (fun e => by have := k9 _ e; omega)
                      have Z9 := Z5.grown gr9 (fun e => by have := k9 _ e; omega)
                      have t9 := Below.grown t5 gr9 t5.size (fun r e => by have := k9 r e; omega)
                      have n9 := Nat.le_trans n5 gr9.size
                      have q9 := gr9.cell q5 (fun e => by have h9 : base ≤ b6 := k9 _ e.symm; have h8 : b6 < w.heap.size := HQB.out; omega)
                      refine hK.out _ _ ⟨P9, q9⟩ (fun hS' => ?_)
                      clear P5 N5 Z5 O5 t5 n5 k9 gr9 F8 rd8 hK K hS q5
                      have hS := hS'
                      clear hS'
                      obtain ⟨A10, c10, e10⟩ := OwnL.slice O9
                      have e11 := e10.trans (HTL.out A10 c10)
                      clear e10
                      subst e11
                      try simp only [Act.put, List.getElem_toArray, List.getElem_cons_zero, List.getElem_cons_succ, List.setIfInBounds_toArray, List.set_cons_zero, List.set_cons_succ]
                      refine wpAnyH_take (i := 10) (oi := _) (v := ?_) rfl (by kernel_rfl) (by kernel_rfl) (by kernel_rfl) (fun _ _ _ h => h) (Or.inl ⟨by rfl, ?_⟩) hS ?_
                      rotate_left
                      · (intro w hSw; (try dsimp only at hSw); go_simp; (try with_reducible rfl))
                      rotate_left
                      simp only [Act.put, List.getElem_toArray, List.getElem_cons_zero, List.getElem_cons_succ, List.setIfInBounds_toArray, List.set_cons_zero, List.set_cons_succ]
                      refine wpAnyH_ready (rs := [11]) (by kernel_rfl) (by simp) ?_
                      refine AllReadyH.cons rfl (fun K hK => ?_) AllReadyH.nil
                      rw [if_pos (by rfl)]
                      have fQ := N9.free
                      have yQ := N9.cell
                      go_simp
                      clear fQ yQ
                      have N10 : BoxOf _ g9 #[.slice A10 (j + 1) c10, .slice none 0 0] 28 := mbox_self N9 0 (.slice A10 (j + 1) c10)
                      have P10 := mbox_else P9 (show w.heap.size + 1 ≠ g9 by omega) 0 (.slice A10 (j + 1) c10)
                      have Z10 := mbox_else Z9 (show w.heap.size + 1 + 1 ≠ g9 by omega) 0 (.slice A10 (j + 1) c10)
                      have O10 := OwnL.setElse (k := g9) (OwnL.cast HST.out.symm O9) (by omega) 0 (.slice A10 (j + 1) c10)
                      have t10 := Below.setCell (p := ⟨g9, 0, none⟩) t9 (show w.heap.size ≤ g9 by omega) (.slice A10 (j + 1) c10)
                      have q10 := keep_cell2 q9 (show b6 ≠ g9 by have := HQB.out; omega) 0 (.slice A10 (j + 1) c10)
                      refine hK.out _ _ ⟨P10, q10⟩ (fun hS' => ?_)
                      clear hK K hS hS' N9 P9 Z9 O9 t9 q9 q10
                      try simp only [Act.put, List.getElem_toArray, List.getElem_cons_zero, List.getElem_cons_succ, List.setIfInBounds_toArray, List.set_cons_zero, List.set_cons_succ]
                      refine wpAnyH_done (by kernel_rfl) ?_ _
                      have HN9 : Hid (base ≤ w9.heap.size) := n9
                      have LJ := HLJ.out
                      clear n9 hb3 hb4 hb5
                      go_wp2
                      go_roundw
                      case rel => exact ⟨j + 1, _, LJ, by first | exact round_same HWJ | go_num, t10, P10, Z10, N10, O10, (show Hid (base ≤ _) from by show base ≤ _; rw [msize]; exact HN9.out), HA'⟩
                      case measure => first | exact round_less HWJ LJ | (have h := LJ; simp [intOf]; omega)
                    · rw [if_pos (by rfl)]
                      go_simp
                      have bb := Ext.alloc (Below.refl v7.heap.size v7) (.cells #[.slice (some ⟨g7, 0, none⟩) 1 1] 30)
                      have rd8 := rd_row v7 #[.slice (some ⟨g7, 0, none⟩) 1 1] 30
                      have F8 := (F7.below bb).mono (fun b hb => Fresh.next hb bb)
                      clear F7
                      obtain ⟨g8, hg8⟩ : ∃ z : Nat, z = v7.heap.size := ⟨_, rfl⟩
                      rw [← hg8] at rd8
                      have P9 := P5.next bb
                      have N9 := N5.next bb
                      have Z9 := Z5.next bb
                      have O9 := O5.next bb
                      have t9 := Ext.trans t5 bb
                      have n9 := Nat.le_trans n5 bb.size
                      have q9 := (bb.cell (p := ⟨b6, off6 + j, none⟩) (block_lt_of_cell q5)).trans q5
                      refine hK.out _ _ ⟨P9, q9⟩ (fun hS' => ?_)
                      clear P5 N5 Z5 O5 t5 n5 q5 hK K hS
                      have P5 := P9
                      have N5 := N9
                      have Z5 := Z9
                      have O5 := O9
                      have t5 := t9
                      have n5 := n9
                      have q5 := q9
                      have hS := hS'
                      clear hS' P9 N9 Z9 O9 t9 n9 q9
                      try simp only [Act.put, List.getElem_toArray, List.getElem_cons_zero, List.getElem_cons_succ, List.setIfInBounds_toArray, List.set_cons_zero, List.set_cons_succ]
                      clear bb
                      rw [← hg8]
                      clear hg8
                      generalize v7.alloc (.cells #[.slice (some ⟨g7, 0, none⟩) 1 1] 30) = v8 at *
                      refine wpAnyH_ready (rs := [1]) (by kernel_rfl) (by simp) ?_
                      refine AllReadyH.cons rfl (fun K hK => ?_) AllReadyH.nil
                      rw [if_pos (by rfl)]
                      have yQ := N5.cell
                      go_simp
                      refine hK.out _ _ ⟨P5, q5⟩ (fun hS' => ?_)
                      clear yQ hK K hS
                      have hS := hS'
                      clear hS'
                      try simp only [Act.put, List.getElem_toArray, List.getElem_cons_zero, List.getElem_cons_succ, List.setIfInBounds_toArray, List.set_cons_zero, List.set_cons_succ]
                      refine wpAnyH_ready (rs := [9]) (by kernel_rfl) (by simp) ?_
                      refine AllReadyH.cons rfl (fun K hK => ?_) AllReadyH.nil
                      rw [if_pos (by rfl)]
                      refine wp_push (.tmp 52) (.tmp 59) 25 rfl base 30 il _ 24 (.sl (.sl .byte)) Try.underlying25 hil hl0 hl1 hl2 rfl (by decide) v (ones (bl.take j)) rfl O5 (some ⟨g8, 0, none⟩) 1 _ rfl rd8 _ F8 HBY.out.1 HBY.out.2 n5 ?_
                      intro u9 w9 O9 gr9 k9
                      obtain ⟨hb3, hb4, hb5⟩ := HBS.out
                      have P9 := P5.grown gr9 (fun e => by have := k9 _ e; omega)
                      have N9 := N5.grown gr9 (fun e => by have := k9 _ e; omega)
                      have Z9 := Z5.grown gr9 (fun e => by have := k9 _ e; omega)
                      have t9 := Below.grown t5 gr9 t5.size (fun r e => by have := k9 r e; omega)
                      have n9 := Nat.le_trans n5 gr9.size
                      have q9 := gr9.cell q5 (fun e => by have h9 : base ≤ b6 := k9 _ e.symm; have h8 : b6 < w.heap.size := HQB.out; omega)
                      refine hK.out _ _ ⟨P9, q9⟩ (fun hS' => ?_)
                      clear P5 N5 Z5 O5 t5 n5 k9 gr9 F8 rd8 hK K hS q5
                      have hS := hS'
                      clear hS'
                      obtain ⟨A10, c10, e10⟩ := OwnL.slice O9
                      have e11 := e10.trans (HTL.out A10 c10)
                      clear e10
                      subst e11
                      try simp only [Act.put, List.getElem_toArray, List.getElem_cons_zero, List.getElem_cons_succ, List.setIfInBounds_toArray, List.set_cons_zero, List.set_cons_succ]
                      refine wpAnyH_take (i := 10) (oi := _) (v := ?_) rfl (by kernel_rfl) (by kernel_rfl) (by kernel_rfl) (fun _ _ _ h => h) (Or.inl ⟨by rfl, ?_⟩) hS ?_
                      rotate_left
                      · (intro w hSw; (try dsimp only at hSw); go_simp; (try with_reducible rfl))
                      rotate_left
                      simp only [Act.put, List.getElem_toArray, List.getElem_cons_zero, List.getElem_cons_succ, List.setIfInBounds_toArray, List.set_cons_zero, List.set_cons_succ]
                      refine wpAnyH_ready (rs := [11]) (by kernel_rfl) (by simp) ?_
                      refine AllReadyH.cons rfl (fun K hK => ?_) AllReadyH.nil
                      rw [if_pos (by rfl)]
                      have fQ := N9.free
                      have yQ := N9.cell
                      go_simp
                      clear fQ yQ
                      have N10 : BoxOf _ g9 #[.slice A10 (j + 1) c10, .slice none 0 0] 28 := mbox_self N9 0 (.slice A10 (j + 1) c10)
                      have P10 := mbox_else P9 (show w.heap.size + 1 ≠ g9 by omega) 0 (.slice A10 (j + 1) c10)
                      have Z10 := mbox_else Z9 (show w.heap.size + 1 + 1 ≠ g9 by omega) 0 (.slice A10 (j + 1) c10)
                      have O10 := OwnL.setElse (k := g9) (OwnL.cast HST.out.symm O9) (by omega) 0 (.slice A10 (j + 1) c10)
                      have t10 := Below.setCell (p := ⟨g9, 0, none⟩) t9 (show w.heap.size ≤ g9 by omega) (.slice A10 (j + 1) c10)
                      have q10 := keep_cell2 q9 (show b6 ≠ g9 by have := HQB.out; omega) 0 (.slice A10 (j + 1) c10)
                      refine hK.out _ _ ⟨P10, q10⟩ (fun hS' => ?_)
                      clear hK K hS hS' N9 P9 Z9 O9 t9 q9 q10
                      try simp only [Act.put, List.getElem_toArray, List.getElem_cons_zero, List.getElem_cons_succ, List.setIfInBounds_toArray, List.set_cons_zero, List.set_cons_succ]
                      refine wpAnyH_done (by kernel_rfl) ?_ _
                      have HN9 : Hid (base ≤ w9.heap.size) := n9
                      have LJ := HLJ.out
                      clear n9 hb3 hb4 hb5
                      go_wp2
                      go_roundw
                      case rel => exact ⟨j + 1, _, LJ, by first | exact round_same HWJ | go_num, t10, P10, Z10, N10, O10, (show Hid (base ≤ _) from by show base ≤ _; rw [msize]; exact HN9.out), HA'⟩
                      case measure => first | exact round_less HWJ LJ | (have h := LJ; simp [intOf]; omega)
            · have hje : bl.take j = bl := List.take_of_length_le (by omega)
              rw [hje] at O3
              obtain ⟨Ag, cg, rfl⟩ := OwnL.slice O3
              have Rg := OwnL.rdin O3 (show (ones bl).length * 24 ≤ 140737488355328 by rw [ones_len]; exact hdz.out)
              have HRG := Lib.hid Rg
              have HALLJ : Hid (∀ i (h : i < bl.length), LeftP ys gs i bl[i]) := fun i hi => HA.out i hi (by omega)
              obtain ⟨hb3, hb4, _⟩ := HBS.out
              clear Rg O3 hj HA
              have f3 := Z3.free
              have z3 := Z3.cell
              have n3 := N3.cell
              go_wp2
              have B5 : BoxOf _ (w.heap.size + 1 + 1) #[.slice Ag (ones bl).length cg, .slice none 0 0] 28 := mbox_self (mbox_self Z3 0 (.slice Ag (ones bl).length cg)) 1 (.slice none 0 0)
              have T5 := Below.setCell (p := ⟨w.heap.size + 1 + 1, 1, none⟩) (Below.setCell (p := ⟨w.heap.size + 1 + 1, 0, none⟩) t3 (show w.heap.size ≤ w.heap.size + 1 + 1 by omega) (.slice Ag (ones bl).length cg)) (show w.heap.size ≤ w.heap.size + 1 + 1 by omega) (.slice none 0 0)
              have R5 := (HRG.out.setElse (k := w.heap.size + 1 + 1) (fun b hb => by have := hb.1; omega) 0 (.slice Ag (ones bl).length cg)).setElse (k := w.heap.size + 1 + 1) (fun b hb => by have := hb.1; omega) 1 (.slice none 0 0)
              have R6 := R5.mono (S' := NewB w.heap.size ((wr.setCell ⟨w.heap.size + 1 + 1, 0, none⟩ (.slice Ag (ones bl).length cg)).setCell ⟨w.heap.size + 1 + 1, 1, none⟩ (.slice none 0 0))) (fun b hb => ⟨by have := hb.1; omega, by simp only [msize]; exact hb.2.1, (hb.2.2.set _ _).set _ _⟩)
              exact bodyPost_ret (v := .tuple #[.agg #[.slice Ag (ones bl).length cg, .slice none 0 0], .int .i64 0]) (Eq.trans (results_row2 (P := Try.prog) (fn := Try.f14) (p := 6) (u := 7) (ty := 28) rfl _ _ (w.heap.size + 1 + 1) 28 #[.slice Ag (ones bl).length cg, .slice none 0 0] (0, 0) _ rfl B5 Try.underlying28 rfl (by kernel_rfl)) rfl) rfl ⟨CrashIs.ok (.inr (.inr (.inr (.inr ⟨HOK.out, HLE.out, HALL.out, HALLJ.out, rfl⟩)))) rfl R6, T5⟩
  · have HNO := Lib.hid hno
    clear hno HLF
    go_wp2
    have B5 : BoxOf _ (w.heap.size + 1 + 1) #[.slice none 0 0, .slice none 0 0] 28 := mbox_self (mbox_self Z1 0 (.slice none 0 0)) 1 (.slice none 0 0)
    have T5 := Below.setCell (p := ⟨w.heap.size + 1 + 1, 1, none⟩) (Below.setCell (p := ⟨w.heap.size + 1 + 1, 0, none⟩) t1 (show w.heap.size ≤ w.heap.size + 1 + 1 by omega) (.slice none 0 0)) (show w.heap.size ≤ w.heap.size + 1 + 1 by omega) (.slice none 0 0)
    exact bodyPost_ret (v := .tuple #[.agg #[.slice none 0 0, .slice none 0 0], .int .i64 8]) (Eq.trans (results_row2 (P := Try.prog) (fn := Try.f14) (p := 6) (u := 7) (ty := 28) rfl _ _ (w.heap.size + 1 + 1) 28 #[.slice none 0 0, .slice none 0 0] (0, 0) _ rfl B5 Try.underlying28 rfl (by kernel_rfl)) rfl) rfl ⟨CrashIs.err (.inl ⟨HNO.out, rfl⟩) (by decide), T5⟩
end Go.Proofs.Ytclbihcggjjgaaa
