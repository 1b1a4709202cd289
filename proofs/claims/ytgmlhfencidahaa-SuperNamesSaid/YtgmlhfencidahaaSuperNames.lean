/- Layer 10 (super): the chapter's examples: the statement. -/
import Derived.Test.YtgmlhfencidahaaSuperPlain
import Derived.Test.YtgmlhfencidahaaSuperLaws
import Derived.BigQuiet
namespace Go.Proofs.Ytgmlhfencidahaa
open Go Go.RowKit
set_option linter.unusedSimpArgs false
set_option linter.unusedVariables false

theorem five_write (w : World) : Calls Try.prog 10 #[.agg #[.int .u32 7, .int .u32 1, .int .u32 300, .int .i64 5]] w fun e w' => ∃ P k c, e = .returned (.tuple #[.slice P k c, .int .i64 0]) ∧ Bs w' P k (supBlock 7 1 300 5) ∧ Below w.heap.size w w' :=
  (pwrite_ok 7 1 300 5 (by decide) (by decide) (by decide) five_ok w).mono fun e w' ⟨g, he, _, hB, hbl⟩ => ⟨_, _, _, he, hB.bs, hbl⟩
theorem five_read (P : Option Addr) (k c : Nat) (w : World) (hb : Bs w P k (supBlock 7 1 300 5)) : Calls Try.prog 13 #[.slice P k c] w fun e w' => e = .returned (.tuple #[.agg #[.int .u32 7, .int .u32 1, .int .u32 300, .int .i64 5], .int .i64 0]) ∧ Below w.heap.size w w' :=
  sup_read_own P k c 7 1 300 5 (by decide) (by decide) (by decide) five_ok w hb
theorem nil_read (w : World) : Calls Try.prog 13 #[.slice none 0 0] w fun e w' => e = .returned (.tuple #[.agg #[.int .u32 0, .int .u32 0, .int .u32 0, .int .i64 0], .int .i64 90]) ∧ Below w.heap.size w w' := by
  rcases read_block none 0 0 [] (.inl rfl) w (Bs.nil _ _) with ⟨j1, j2, j3, j4, h, _⟩ | ⟨_, hc⟩
  · exact absurd (read_len h) (by decide)
  · exact hc

set_option maxRecDepth 100000 in
set_option maxHeartbeats 2000000 in
theorem superNames_walk (w : World) : Calls Try.prog 4 #[] w fun e w' => e = .returned (.bool true) ∧ Below w.heap.size w w' := by
  have HW := Lib.hid five_write
  have HR := Lib.hid five_read
  have HN := Lib.hid nil_read
  have HT := Lib.hid (fun A q => read_text A 1 q (by decide) (by decide))
  have HC1 := Lib.hid (pcheck_bad 7 0 300 5 (by decide) (by decide) (by decide))
  have HC2 := Lib.hid (pcheck_bad 7 1 2147483649 5 (by decide) (by decide) (by decide))
  have HC3 := Lib.hid (pcheck_bad 7 1 300 255 (by decide) (by decide) (by decide))
  go_enter Try.func4, Try.ntmps4
  go_wp2_with fail
  refine (five_any _).mono ?_
  rintro e w1 ⟨rfl, b1⟩
  go_wp2_with fail
  refine (HW.out _).mono ?_
  rintro e w2 ⟨P, k, c, rfl, hp, b2⟩
  have t2 := Ext.trans b1 b2
  clear b1 b2
  go_wp2_with fail
  refine (HR.out _ _ _ _ hp).mono ?_
  rintro e w3 ⟨rfl, b3⟩
  have A3 := BoxOf.new w3 #[.int .u32 7, .int .u32 1, .int .u32 300, .int .i64 5] 24
  have t3 := Ext.alloc (Ext.trans t2 b3) (.cells #[.int .u32 7, .int .u32 1, .int .u32 300, .int .i64 5] 24)
  clear t2 b3 hp
  go_wp2_with fail
  obtain ⟨g3, hg3⟩ : ∃ g : Nat, g = w3.heap.size := ⟨_, rfl⟩
  rw [← hg3] at A3 ⊢
  clear hg3
  generalize w3.alloc (.cells #[.int .u32 7, .int .u32 1, .int .u32 300, .int .i64 5] 24) = v3 at *
  refine (HN.out _).mono ?_
  rintro e w4 ⟨rfl, b4⟩
  have A4 := ((A3.next b4).alloc (.cells #[.int .u32 0, .int .u32 0, .int .u32 0, .int .i64 0] 24)).alloc (.cells #[.int .u8 83] 5)
  have t4 := Ext.alloc (Ext.alloc (Ext.trans t3 b4) (.cells #[.int .u32 0, .int .u32 0, .int .u32 0, .int .i64 0] 24)) (.cells #[.int .u8 83] 5)
  clear A3 t3 b4
  go_wp2_with fail
  generalize (w4.alloc (.cells #[.int .u32 0, .int .u32 0, .int .u32 0, .int .i64 0] 24)).alloc (.cells #[.int .u8 83] 5) = v4 at *
  refine (HT.out _ _ _).mono ?_
  rintro e w5 ⟨rfl, b5⟩
  have A5 := (A4.next b5).alloc (.cells #[.int .u32 0, .int .u32 0, .int .u32 0, .int .i64 0] 24)
  have t5 := Ext.alloc (Ext.trans t4 b5) (.cells #[.int .u32 0, .int .u32 0, .int .u32 0, .int .i64 0] 24)
  clear A4 t4 b5
  go_wp2_with fail
  refine (five_any _).mono ?_
  rintro e w6 ⟨rfl, b6⟩
  go_wp2_with fail
  refine (five_any _).mono ?_
  rintro e w7 ⟨rfl, b7⟩
  go_wp2_with fail
  refine (five_any _).mono ?_
  rintro e w8 ⟨rfl, b8⟩
  have A8 := ((A5.next b6).next b7).next b8
  have t8 := Ext.trans (Ext.trans (Ext.trans t5 b6) b7) b8
  clear A5 t5 b6 b7 b8
  go_upto_region 9 with fail
  obtain ⟨g8, hg8⟩ : ∃ g : Nat, g = w8.heap.size := ⟨_, rfl⟩
  have X8 := ((BoxOf.new' w8 g8 #[.int .u32 7, .int .u32 0, .int .u32 300, .int .i64 5] 24 hg8).alloc (.cells #[.int .u32 7, .int .u32 1, .int .u32 2147483649, .int .i64 5] 24)).alloc (.cells #[.int .u32 7, .int .u32 1, .int .u32 300, .int .i64 255] 24)
  have Y8 := (BoxOf.new' (w8.alloc (.cells #[.int .u32 7, .int .u32 0, .int .u32 300, .int .i64 5] 24)) (g8 + 1) #[.int .u32 7, .int .u32 1, .int .u32 2147483649, .int .i64 5] 24 (by simp [hg8])).alloc (.cells #[.int .u32 7, .int .u32 1, .int .u32 300, .int .i64 255] 24)
  have Z8 := BoxOf.new' ((w8.alloc (.cells #[.int .u32 7, .int .u32 0, .int .u32 300, .int .i64 5] 24)).alloc (.cells #[.int .u32 7, .int .u32 1, .int .u32 2147483649, .int .i64 5] 24)) (g8 + 1 + 1) #[.int .u32 7, .int .u32 1, .int .u32 300, .int .i64 255] 24 (by simp [hg8])
  have B8 := ((A8.alloc (.cells #[.int .u32 7, .int .u32 0, .int .u32 300, .int .i64 5] 24)).alloc (.cells #[.int .u32 7, .int .u32 1, .int .u32 2147483649, .int .i64 5] 24)).alloc (.cells #[.int .u32 7, .int .u32 1, .int .u32 300, .int .i64 255] 24)
  have t9 := Ext.alloc (Ext.alloc (Ext.alloc t8 (.cells #[.int .u32 7, .int .u32 0, .int .u32 300, .int .i64 5] 24)) (.cells #[.int .u32 7, .int .u32 1, .int .u32 2147483649, .int .i64 5] 24)) (.cells #[.int .u32 7, .int .u32 1, .int .u32 300, .int .i64 255] 24)
  rw [← hg8]
  clear A8 t8 hg8
  generalize ((w8.alloc (.cells #[.int .u32 7, .int .u32 0, .int .u32 300, .int .i64 5] 24)).alloc (.cells #[.int .u32 7, .int .u32 1, .int .u32 2147483649, .int .i64 5] 24)).alloc (.cells #[.int .u32 7, .int .u32 1, .int .u32 300, .int .i64 255] 24) = v8 at *
  refine wp_region_held_drew (S := fun w' => Below w.heap.size w w' ∧ BoxOf w' g3 #[.int .u32 7, .int .u32 1, .int .u32 300, .int .i64 5] 24 ∧ (∀ o, w'.cell? ⟨g3, o, none⟩ = #[.int .u32 7, .int .u32 1, .int .u32 300, .int .i64 5].toList[o]?) ∧ BoxOf w' g8 #[.int .u32 7, .int .u32 0, .int .u32 300, .int .i64 5] 24 ∧ (∀ o, w'.cell? ⟨g8, o, none⟩ = #[.int .u32 7, .int .u32 0, .int .u32 300, .int .i64 5].toList[o]?) ∧ BoxOf w' (g8 + 1) #[.int .u32 7, .int .u32 1, .int .u32 2147483649, .int .i64 5] 24 ∧ (∀ o, w'.cell? ⟨g8 + 1, o, none⟩ = #[.int .u32 7, .int .u32 1, .int .u32 2147483649, .int .i64 5].toList[o]?) ∧ BoxOf w' (g8 + 1 + 1) #[.int .u32 7, .int .u32 1, .int .u32 300, .int .i64 255] 24 ∧ (∀ o, w'.cell? ⟨g8 + 1 + 1, o, none⟩ = #[.int .u32 7, .int .u32 1, .int .u32 300, .int .i64 255].toList[o]?)) (by kernel_rfl) ⟨Ext.drew t9, B8.drew, B8.drew.cell, X8.drew, X8.drew.cell, Y8.drew, Y8.drew.cell, Z8.drew, Z8.drew.cell⟩ (fun hS => ?_)
  clear t9 B8 X8 Y8 Z8
  refine wpAnyH_take (i := 0) (oi := _) (v := ?_) rfl (by kernel_rfl) (by kernel_rfl) (by kernel_rfl) (fun _ _ _ h => h) (Or.inl ⟨by rfl, ?_⟩) hS ?_
  rotate_left
  · (intro w hSw; (try dsimp only at hSw); go_simp; (try with_reducible rfl))
  rotate_left
  simp only [Act.put, List.getElem_toArray, List.getElem_cons_zero, List.getElem_cons_succ, List.setIfInBounds_toArray, List.set_cons_zero, List.set_cons_succ]
  refine wpAnyH_ready (rs := [1]) (by kernel_rfl) (by simp) ?_
  refine AllReadyH.cons rfl (fun K hK => ?_) AllReadyH.nil
  rw [if_pos (by rfl)]
  go_simp
  refine (sualive_any _).mono ?_
  rintro e u1 ⟨rfl, b9⟩
  refine hK.out _ _ ⟨Ext.trans hS.1 b9, hS.2.1.next b9, (hS.2.1.next b9).cell, hS.2.2.2.1.next b9, (hS.2.2.2.1.next b9).cell, hS.2.2.2.2.2.1.next b9, (hS.2.2.2.2.2.1.next b9).cell, hS.2.2.2.2.2.2.2.1.next b9, (hS.2.2.2.2.2.2.2.1.next b9).cell⟩ (fun hS' => ?_)
  clear b9
  clear hK K hS
  have hS := hS'
  clear hS'
  try simp only [Act.put, List.getElem_toArray, List.getElem_cons_zero, List.getElem_cons_succ, List.setIfInBounds_toArray, List.set_cons_zero, List.set_cons_succ]
  refine wpAnyH_take (i := 2) (oi := _) (v := ?_) rfl (by kernel_rfl) (by kernel_rfl) (by kernel_rfl) (fun _ _ _ h => h) (Or.inl ⟨by rfl, ?_⟩) hS ?_
  rotate_left
  · (intro w hSw; (try dsimp only at hSw); go_simp; (try with_reducible rfl))
  rotate_left
  simp only [Act.put, List.getElem_toArray, List.getElem_cons_zero, List.getElem_cons_succ, List.setIfInBounds_toArray, List.set_cons_zero, List.set_cons_succ]
  refine wpAnyH_take (i := 3) (oi := _) (v := ?_) rfl (by kernel_rfl) (by kernel_rfl) (by kernel_rfl) (fun _ _ _ h => h) (Or.inl ⟨by rfl, ?_⟩) hS ?_
  rotate_left
  · (intro w hSw; (try dsimp only at hSw); go_simp; (try with_reducible rfl))
  rotate_left
  simp only [Act.put, List.getElem_toArray, List.getElem_cons_zero, List.getElem_cons_succ, List.setIfInBounds_toArray, List.set_cons_zero, List.set_cons_succ]
  refine wpAnyH_take (i := 4) (oi := _) (v := ?_) rfl (by kernel_rfl) (by kernel_rfl) (by kernel_rfl) (fun _ _ _ h => h) (Or.inl ⟨by rfl, ?_⟩) hS ?_
  rotate_left
  · (intro w hSw; (try dsimp only at hSw); go_simp; (try with_reducible rfl))
  rotate_left
  simp only [Act.put, List.getElem_toArray, List.getElem_cons_zero, List.getElem_cons_succ, List.setIfInBounds_toArray, List.set_cons_zero, List.set_cons_succ]
  refine wpAnyH_take (i := 5) (oi := _) (v := ?_) rfl (by kernel_rfl) (by kernel_rfl) (by kernel_rfl) (fun _ _ _ h => h) (Or.inl ⟨by rfl, ?_⟩) hS ?_
  rotate_left
  · (intro w hSw; (try dsimp only at hSw); go_simp; (try with_reducible rfl))
  rotate_left
  simp only [Act.put, List.getElem_toArray, List.getElem_cons_zero, List.getElem_cons_succ, List.setIfInBounds_toArray, List.set_cons_zero, List.set_cons_succ]
  refine wpAnyH_take (i := 6) (oi := _) (v := ?_) rfl (by kernel_rfl) (by kernel_rfl) (by kernel_rfl) (fun _ _ _ h => h) (Or.inl ⟨by rfl, ?_⟩) hS ?_
  rotate_left
  · (intro w hSw; (try dsimp only at hSw); go_simp; (try with_reducible rfl))
  rotate_left
  simp only [Act.put, List.getElem_toArray, List.getElem_cons_zero, List.getElem_cons_succ, List.setIfInBounds_toArray, List.set_cons_zero, List.set_cons_succ]
  refine wpAnyH_take (i := 7) (oi := _) (v := ?_) rfl (by kernel_rfl) (by kernel_rfl) (by kernel_rfl) (fun _ _ _ h => h) (Or.inl ⟨by rfl, ?_⟩) hS ?_
  rotate_left
  · (intro w hSw; (try dsimp only at hSw); go_simp; (try with_reducible rfl))
  rotate_left
  simp only [Act.put, List.getElem_toArray, List.getElem_cons_zero, List.getElem_cons_succ, List.setIfInBounds_toArray, List.set_cons_zero, List.set_cons_succ]
  refine wpAnyH_take (i := 8) (oi := _) (v := ?_) rfl (by kernel_rfl) (by kernel_rfl) (by kernel_rfl) (fun _ _ _ h => h) (Or.inl ⟨by rfl, ?_⟩) hS ?_
  rotate_left
  · (intro w hSw; (try dsimp only at hSw); go_simp; (try with_reducible rfl))
  rotate_left
  simp only [Act.put, List.getElem_toArray, List.getElem_cons_zero, List.getElem_cons_succ, List.setIfInBounds_toArray, List.set_cons_zero, List.set_cons_succ]
  refine wpAnyH_ready (rs := [9]) (by kernel_rfl) (by simp) ?_
  refine AllReadyH.cons rfl (fun K hK => ?_) AllReadyH.nil
  rw [if_pos (by rfl)]
  go_simp
  refine (five_any _).mono ?_
  rintro e u9 ⟨rfl, b9⟩
  refine hK.out _ _ ⟨Ext.trans hS.1 b9, hS.2.1.next b9, (hS.2.1.next b9).cell, hS.2.2.2.1.next b9, (hS.2.2.2.1.next b9).cell, hS.2.2.2.2.2.1.next b9, (hS.2.2.2.2.2.1.next b9).cell, hS.2.2.2.2.2.2.2.1.next b9, (hS.2.2.2.2.2.2.2.1.next b9).cell⟩ (fun hS' => ?_)
  clear b9
  clear hK K hS
  have hS := hS'
  clear hS'
  try simp only [Act.put, List.getElem_toArray, List.getElem_cons_zero, List.getElem_cons_succ, List.setIfInBounds_toArray, List.set_cons_zero, List.set_cons_succ]
  refine wpAnyH_take (i := 10) (oi := _) (v := ?_) rfl (by kernel_rfl) (by kernel_rfl) (by kernel_rfl) (fun _ _ _ h => h) (Or.inl ⟨by rfl, ?_⟩) hS ?_
  rotate_left
  · (intro w hSw; (try dsimp only at hSw); go_simp; (try with_reducible rfl))
  rotate_left
  simp only [Act.put, List.getElem_toArray, List.getElem_cons_zero, List.getElem_cons_succ, List.setIfInBounds_toArray, List.set_cons_zero, List.set_cons_succ]
  refine wpAnyH_take (i := 11) (oi := _) (v := ?_) rfl (by kernel_rfl) (by kernel_rfl) (by kernel_rfl) (fun _ _ _ h => h) (Or.inl ⟨by rfl, ?_⟩) hS ?_
  rotate_left
  · (intro w hSw; (try dsimp only at hSw); go_simp; (try with_reducible rfl))
  rotate_left
  simp only [Act.put, List.getElem_toArray, List.getElem_cons_zero, List.getElem_cons_succ, List.setIfInBounds_toArray, List.set_cons_zero, List.set_cons_succ]
  refine wpAnyH_take (i := 12) (oi := _) (v := ?_) rfl (by kernel_rfl) (by kernel_rfl) (by kernel_rfl) (fun _ _ _ h => h) (Or.inl ⟨by rfl, ?_⟩) hS ?_
  rotate_left
  · (intro w hSw; (try dsimp only at hSw); go_simp; (try with_reducible rfl))
  rotate_left
  simp only [Act.put, List.getElem_toArray, List.getElem_cons_zero, List.getElem_cons_succ, List.setIfInBounds_toArray, List.set_cons_zero, List.set_cons_succ]
  refine wpAnyH_take (i := 13) (oi := _) (v := ?_) rfl (by kernel_rfl) (by kernel_rfl) (by kernel_rfl) (fun _ _ _ h => h) (Or.inl ⟨by rfl, ?_⟩) hS ?_
  rotate_left
  · (intro w hSw; (try dsimp only at hSw); go_simp; (try with_reducible rfl))
  rotate_left
  simp only [Act.put, List.getElem_toArray, List.getElem_cons_zero, List.getElem_cons_succ, List.setIfInBounds_toArray, List.set_cons_zero, List.set_cons_succ]
  refine wpAnyH_take (i := 14) (oi := _) (v := ?_) rfl (by kernel_rfl) (by kernel_rfl) (by kernel_rfl) (fun _ _ _ h => h) (Or.inl ⟨by rfl, ?_⟩) hS ?_
  rotate_left
  · (intro w hSw; (try dsimp only at hSw); go_simp; (try with_reducible rfl))
  rotate_left
  simp only [Act.put, List.getElem_toArray, List.getElem_cons_zero, List.getElem_cons_succ, List.setIfInBounds_toArray, List.set_cons_zero, List.set_cons_succ]
  refine wpAnyH_take (i := 15) (oi := _) (v := ?_) rfl (by kernel_rfl) (by kernel_rfl) (by kernel_rfl) (fun _ _ _ h => h) (Or.inl ⟨by rfl, ?_⟩) hS ?_
  rotate_left
  · (intro w hSw; (try dsimp only at hSw); go_simp; (try with_reducible rfl))
  rotate_left
  simp only [Act.put, List.getElem_toArray, List.getElem_cons_zero, List.getElem_cons_succ, List.setIfInBounds_toArray, List.set_cons_zero, List.set_cons_succ]
  refine wpAnyH_take (i := 16) (oi := _) (v := ?_) rfl (by kernel_rfl) (by kernel_rfl) (by kernel_rfl) (fun _ _ _ h => h) (Or.inl ⟨by rfl, ?_⟩) hS ?_
  rotate_left
  · (intro w hSw; (try dsimp only at hSw); go_simp; (try with_reducible rfl))
  rotate_left
  simp only [Act.put, List.getElem_toArray, List.getElem_cons_zero, List.getElem_cons_succ, List.setIfInBounds_toArray, List.set_cons_zero, List.set_cons_succ]
  refine wpAnyH_take (i := 17) (oi := _) (v := ?_) rfl (by kernel_rfl) (by kernel_rfl) (by kernel_rfl) (fun _ _ _ h => h) (Or.inl ⟨by rfl, ?_⟩) hS ?_
  rotate_left
  · (intro w hSw; (try dsimp only at hSw); go_simp; (try with_reducible rfl))
  rotate_left
  simp only [Act.put, List.getElem_toArray, List.getElem_cons_zero, List.getElem_cons_succ, List.setIfInBounds_toArray, List.set_cons_zero, List.set_cons_succ]
  refine wpAnyH_take (i := 18) (oi := _) (v := ?_) rfl (by kernel_rfl) (by kernel_rfl) (by kernel_rfl) (fun _ _ _ h => h) (Or.inl ⟨by rfl, ?_⟩) hS ?_
  rotate_left
  · (intro w hSw; (try dsimp only at hSw); go_simp; (try with_reducible rfl))
  rotate_left
  simp only [Act.put, List.getElem_toArray, List.getElem_cons_zero, List.getElem_cons_succ, List.setIfInBounds_toArray, List.set_cons_zero, List.set_cons_succ]
  refine wpAnyH_take (i := 19) (oi := _) (v := ?_) rfl (by kernel_rfl) (by kernel_rfl) (by kernel_rfl) (fun _ _ _ h => h) (Or.inl ⟨by rfl, ?_⟩) hS ?_
  rotate_left
  · (intro w hSw; (try dsimp only at hSw); go_simp; (try with_reducible rfl))
  rotate_left
  simp only [Act.put, List.getElem_toArray, List.getElem_cons_zero, List.getElem_cons_succ, List.setIfInBounds_toArray, List.set_cons_zero, List.set_cons_succ]
  refine wpAnyH_take (i := 20) (oi := _) (v := ?_) rfl (by kernel_rfl) (by kernel_rfl) (by kernel_rfl) (fun _ _ _ h => h) (Or.inl ⟨by rfl, ?_⟩) hS ?_
  rotate_left
  · (intro w hSw; (try dsimp only at hSw); go_simp; (try with_reducible rfl))
  rotate_left
  simp only [Act.put, List.getElem_toArray, List.getElem_cons_zero, List.getElem_cons_succ, List.setIfInBounds_toArray, List.set_cons_zero, List.set_cons_succ]
  refine wpAnyH_take (i := 21) (oi := _) (v := ?_) rfl (by kernel_rfl) (by kernel_rfl) (by kernel_rfl) (fun _ _ _ h => h) (Or.inl ⟨by rfl, ?_⟩) hS ?_
  rotate_left
  · (intro w hSw; (try dsimp only at hSw); go_simp; (try with_reducible rfl))
  rotate_left
  simp only [Act.put, List.getElem_toArray, List.getElem_cons_zero, List.getElem_cons_succ, List.setIfInBounds_toArray, List.set_cons_zero, List.set_cons_succ]
  refine wpAnyH_ready (rs := [22]) (by kernel_rfl) (by simp) ?_
  refine AllReadyH.cons rfl (fun K hK => ?_) AllReadyH.nil
  rw [if_pos (by rfl)]
  go_simp
  refine (HC1.out _).mono ?_
  rintro e u22 ⟨rfl, b9⟩
  refine hK.out _ _ ⟨Ext.trans hS.1 b9, hS.2.1.next b9, (hS.2.1.next b9).cell, hS.2.2.2.1.next b9, (hS.2.2.2.1.next b9).cell, hS.2.2.2.2.2.1.next b9, (hS.2.2.2.2.2.1.next b9).cell, hS.2.2.2.2.2.2.2.1.next b9, (hS.2.2.2.2.2.2.2.1.next b9).cell⟩ (fun hS' => ?_)
  clear b9
  clear hK K hS
  have hS := hS'
  clear hS'
  try simp only [Act.put, List.getElem_toArray, List.getElem_cons_zero, List.getElem_cons_succ, List.setIfInBounds_toArray, List.set_cons_zero, List.set_cons_succ]
  refine wpAnyH_take (i := 23) (oi := _) (v := ?_) rfl (by kernel_rfl) (by kernel_rfl) (by kernel_rfl) (fun _ _ _ h => h) (Or.inl ⟨by rfl, ?_⟩) hS ?_
  rotate_left
  · (intro w hSw; (try dsimp only at hSw); go_simp; (try with_reducible rfl))
  rotate_left
  simp only [Act.put, List.getElem_toArray, List.getElem_cons_zero, List.getElem_cons_succ, List.setIfInBounds_toArray, List.set_cons_zero, List.set_cons_succ]
  refine wpAnyH_take (i := 24) (oi := _) (v := ?_) rfl (by kernel_rfl) (by kernel_rfl) (by kernel_rfl) (fun _ _ _ h => h) (Or.inl ⟨by rfl, ?_⟩) hS ?_
  rotate_left
  · (intro w hSw; (try dsimp only at hSw); go_simp; (try with_reducible rfl))
  rotate_left
  simp only [Act.put, List.getElem_toArray, List.getElem_cons_zero, List.getElem_cons_succ, List.setIfInBounds_toArray, List.set_cons_zero, List.set_cons_succ]
  refine wpAnyH_take (i := 25) (oi := _) (v := ?_) rfl (by kernel_rfl) (by kernel_rfl) (by kernel_rfl) (fun _ _ _ h => h) (Or.inl ⟨by rfl, ?_⟩) hS ?_
  rotate_left
  · (intro w hSw; (try dsimp only at hSw); go_simp; (try with_reducible rfl))
  rotate_left
  simp only [Act.put, List.getElem_toArray, List.getElem_cons_zero, List.getElem_cons_succ, List.setIfInBounds_toArray, List.set_cons_zero, List.set_cons_succ]
  refine wpAnyH_take (i := 26) (oi := _) (v := ?_) rfl (by kernel_rfl) (by kernel_rfl) (by kernel_rfl) (fun _ _ _ h => h) (Or.inl ⟨by rfl, ?_⟩) hS ?_
  rotate_left
  · (intro w hSw; (try dsimp only at hSw); go_simp; (try with_reducible rfl))
  rotate_left
  simp only [Act.put, List.getElem_toArray, List.getElem_cons_zero, List.getElem_cons_succ, List.setIfInBounds_toArray, List.set_cons_zero, List.set_cons_succ]
  refine wpAnyH_ready (rs := [27]) (by kernel_rfl) (by simp) ?_
  refine AllReadyH.cons rfl (fun K hK => ?_) AllReadyH.nil
  rw [if_pos (by rfl)]
  go_simp
  refine (HC2.out _).mono ?_
  rintro e u27 ⟨rfl, b9⟩
  refine hK.out _ _ ⟨Ext.trans hS.1 b9, hS.2.1.next b9, (hS.2.1.next b9).cell, hS.2.2.2.1.next b9, (hS.2.2.2.1.next b9).cell, hS.2.2.2.2.2.1.next b9, (hS.2.2.2.2.2.1.next b9).cell, hS.2.2.2.2.2.2.2.1.next b9, (hS.2.2.2.2.2.2.2.1.next b9).cell⟩ (fun hS' => ?_)
  clear b9
  clear hK K hS
  have hS := hS'
  clear hS'
  try simp only [Act.put, List.getElem_toArray, List.getElem_cons_zero, List.getElem_cons_succ, List.setIfInBounds_toArray, List.set_cons_zero, List.set_cons_succ]
  refine wpAnyH_take (i := 28) (oi := _) (v := ?_) rfl (by kernel_rfl) (by kernel_rfl) (by kernel_rfl) (fun _ _ _ h => h) (Or.inl ⟨by rfl, ?_⟩) hS ?_
  rotate_left
  · (intro w hSw; (try dsimp only at hSw); go_simp; (try with_reducible rfl))
  rotate_left
  simp only [Act.put, List.getElem_toArray, List.getElem_cons_zero, List.getElem_cons_succ, List.setIfInBounds_toArray, List.set_cons_zero, List.set_cons_succ]
  refine wpAnyH_take (i := 29) (oi := _) (v := ?_) rfl (by kernel_rfl) (by kernel_rfl) (by kernel_rfl) (fun _ _ _ h => h) (Or.inl ⟨by rfl, ?_⟩) hS ?_
  rotate_left
  · (intro w hSw; (try dsimp only at hSw); go_simp; (try with_reducible rfl))
  rotate_left
  simp only [Act.put, List.getElem_toArray, List.getElem_cons_zero, List.getElem_cons_succ, List.setIfInBounds_toArray, List.set_cons_zero, List.set_cons_succ]
  refine wpAnyH_take (i := 30) (oi := _) (v := ?_) rfl (by kernel_rfl) (by kernel_rfl) (by kernel_rfl) (fun _ _ _ h => h) (Or.inl ⟨by rfl, ?_⟩) hS ?_
  rotate_left
  · (intro w hSw; (try dsimp only at hSw); go_simp; (try with_reducible rfl))
  rotate_left
  simp only [Act.put, List.getElem_toArray, List.getElem_cons_zero, List.getElem_cons_succ, List.setIfInBounds_toArray, List.set_cons_zero, List.set_cons_succ]
  refine wpAnyH_take (i := 31) (oi := _) (v := ?_) rfl (by kernel_rfl) (by kernel_rfl) (by kernel_rfl) (fun _ _ _ h => h) (Or.inl ⟨by rfl, ?_⟩) hS ?_
  rotate_left
  · (intro w hSw; (try dsimp only at hSw); go_simp; (try with_reducible rfl))
  rotate_left
  simp only [Act.put, List.getElem_toArray, List.getElem_cons_zero, List.getElem_cons_succ, List.setIfInBounds_toArray, List.set_cons_zero, List.set_cons_succ]
  refine wpAnyH_ready (rs := [32]) (by kernel_rfl) (by simp) ?_
  refine AllReadyH.cons rfl (fun K hK => ?_) AllReadyH.nil
  rw [if_pos (by rfl)]
  go_simp
  refine (HC3.out _).mono ?_
  rintro e u32 ⟨rfl, b9⟩
  refine hK.out _ _ ⟨Ext.trans hS.1 b9, hS.2.1.next b9, (hS.2.1.next b9).cell, hS.2.2.2.1.next b9, (hS.2.2.2.1.next b9).cell, hS.2.2.2.2.2.1.next b9, (hS.2.2.2.2.2.1.next b9).cell, hS.2.2.2.2.2.2.2.1.next b9, (hS.2.2.2.2.2.2.2.1.next b9).cell⟩ (fun hS' => ?_)
  clear b9
  clear hK K hS
  have hS := hS'
  clear hS'
  try simp only [Act.put, List.getElem_toArray, List.getElem_cons_zero, List.getElem_cons_succ, List.setIfInBounds_toArray, List.set_cons_zero, List.set_cons_succ]
  refine wpAnyH_take (i := 33) (oi := _) (v := ?_) rfl (by kernel_rfl) (by kernel_rfl) (by kernel_rfl) (fun _ _ _ h => h) (Or.inl ⟨by rfl, ?_⟩) hS ?_
  rotate_left
  · (intro w hSw; (try dsimp only at hSw); go_simp; (try with_reducible rfl))
  rotate_left
  simp only [Act.put, List.getElem_toArray, List.getElem_cons_zero, List.getElem_cons_succ, List.setIfInBounds_toArray, List.set_cons_zero, List.set_cons_succ]
  refine wpAnyH_take (i := 34) (oi := _) (v := ?_) rfl (by kernel_rfl) (by kernel_rfl) (by kernel_rfl) (fun _ _ _ h => h) (Or.inl ⟨by rfl, ?_⟩) hS ?_
  rotate_left
  · (intro w hSw; (try dsimp only at hSw); go_simp; (try with_reducible rfl))
  rotate_left
  simp only [Act.put, List.getElem_toArray, List.getElem_cons_zero, List.getElem_cons_succ, List.setIfInBounds_toArray, List.set_cons_zero, List.set_cons_succ]
  refine wpAnyH_take (i := 35) (oi := _) (v := ?_) rfl (by kernel_rfl) (by kernel_rfl) (by kernel_rfl) (fun _ _ _ h => h) (Or.inl ⟨by rfl, ?_⟩) hS ?_
  rotate_left
  · (intro w hSw; (try dsimp only at hSw); go_simp; (try with_reducible rfl))
  rotate_left
  simp only [Act.put, List.getElem_toArray, List.getElem_cons_zero, List.getElem_cons_succ, List.setIfInBounds_toArray, List.set_cons_zero, List.set_cons_succ]
  refine wpAnyH_done (by kernel_rfl) ?_ _
  have t10 := hS.1
  clear hS
  go_wp2
  go_ret
  exact ⟨rfl, t10⟩
end Go.Proofs.Ytgmlhfencidahaa
