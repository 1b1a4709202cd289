/- Layer 9 (label): the statements' own functions. -/
import Derived.Test.YtiomgjfiiibllaaLabelPlain
import Derived.Test.YtiomgjfiiibllaaData
namespace Go.Proofs.Ytiomgjfiiibllaa
open Go Go.RowKit
set_option linter.unusedSimpArgs false
set_option linter.unusedVariables false

theorem lab_open {w : World} {cs : List Value} {y : (Ty.st (.prod .u32 (.prod .u32 (.prod .int (.prod .int (.prod .int (.prod .int (.prod .int (.prod .int (.prod .int (.prod .bool .unit))))))))))).T} (h : Reads w (Ty.st (.prod .u32 (.prod .u32 (.prod .int (.prod .int (.prod .int (.prod .int (.prod .int (.prod .int (.prod .int (.prod .bool .unit))))))))))) y cs) : ∃ x : Lab, Value.agg cs.toArray = .agg x.cells ∧ x.id < 4294967296 ∧ x.ev < 4294967296 := by
  obtain ⟨id, ev, m, c, r, l, me, lost, dn, op, u⟩ := y
  obtain ⟨c0, d0, rfl, r0, h⟩ := reads_prod.1 (reads_st.1 h)
  obtain ⟨c1, d1, rfl, r1, h⟩ := reads_prod.1 h
  obtain ⟨c2, d2, rfl, r2, h⟩ := reads_prod.1 h
  obtain ⟨c3, d3, rfl, r3, h⟩ := reads_prod.1 h
  obtain ⟨c4, d4, rfl, r4, h⟩ := reads_prod.1 h
  obtain ⟨c5, d5, rfl, r5, h⟩ := reads_prod.1 h
  obtain ⟨c6, d6, rfl, r6, h⟩ := reads_prod.1 h
  obtain ⟨c7, d7, rfl, r7, h⟩ := reads_prod.1 h
  obtain ⟨c8, d8, rfl, r8, h⟩ := reads_prod.1 h
  obtain ⟨c9, d9, rfl, r9, h⟩ := reads_prod.1 h
  obtain rfl := reads_unit.1 h
  obtain ⟨rfl, i0⟩ := reads_u32.1 r0
  obtain ⟨rfl, i1⟩ := reads_u32.1 r1
  obtain ⟨rfl, _⟩ := reads_int.1 r2
  obtain ⟨rfl, _⟩ := reads_int.1 r3
  obtain ⟨rfl, _⟩ := reads_int.1 r4
  obtain ⟨rfl, _⟩ := reads_int.1 r5
  obtain ⟨rfl, _⟩ := reads_int.1 r6
  obtain ⟨rfl, _⟩ := reads_int.1 r7
  obtain ⟨rfl, _⟩ := reads_int.1 r8
  obtain rfl := reads_bool.1 r9
  exact ⟨⟨id, ev, m, c, r, l, me, lost, dn, op⟩, rfl, i0, i1⟩

theorem one_any (w : World) : Calls Try.prog 14 #[] w fun e w' => e = .returned (.agg #[.int .u32 7, .int .u32 2, .int .i64 3, .int .i64 1, .int .i64 1, .int .i64 12, .int .i64 1, .int .i64 (-1), .int .i64 0, .bool true]) ∧ Below w.heap.size w w' := by
  go_enter Try.func14, Try.ntmps14
  go_wp2
  exact bodyPost_ret (v := .agg #[.int .u32 7, .int .u32 2, .int .i64 3, .int .i64 1, .int .i64 1, .int .i64 12, .int .i64 1, .int .i64 (-1), .int .i64 0, .bool true]) (results_cell_row rfl _ _ w.heap.size 24 #[.int .u32 7, .int .u32 2, .int .i64 3, .int .i64 1, .int .i64 1, .int .i64 12, .int .i64 1, .int .i64 (-1), .int .i64 0, .bool true] (0, 0) _ rfl (heap_alloc_new _ _) Try.underlying24 rfl (by kernel_rfl)) rfl ⟨rfl, Ext.alloc (Below.refl _ _) _⟩
theorem one_ok : (lab 7 2 3 1 1 12 1 255 0 true).Ok := by decide
theorem one_write (w : World) : Calls Try.prog 10 #[.agg #[.int .u32 7, .int .u32 2, .int .i64 3, .int .i64 1, .int .i64 1, .int .i64 12, .int .i64 1, .int .i64 (-1), .int .i64 0, .bool true]] w fun e w' => ∃ g, e = .returned (.tuple #[.slice (some ⟨g, 0, none⟩) 128 128, .int .i64 0]) ∧ w.heap.size ≤ g ∧ Box w' g (labBlock 7 2 3 1 1 12 1 255 0 true) ∧ Below w.heap.size w w' :=
  lwrite_ok 7 2 3 1 1 12 1 255 0 true (by decide) one_ok w
theorem one_read (P : Option Addr) (k c : Nat) (w : World) (hb : Bs w P k (labBlock 7 2 3 1 1 12 1 255 0 true)) : Calls Try.prog 15 #[.slice P k c] w fun e w' => e = .returned (.tuple #[.agg #[.int .u32 7, .int .u32 2, .int .i64 3, .int .i64 1, .int .i64 1, .int .i64 12, .int .i64 1, .int .i64 (-1), .int .i64 0, .bool true], .int .i64 0]) ∧ Below w.heap.size w w' :=
  lread_own P k c 7 2 3 1 1 12 1 255 0 true (by decide) one_ok w hb

set_option maxRecDepth 100000 in
set_option maxHeartbeats 1000000 in
theorem lalive_any (w : World) : Calls Try.prog 16 #[] w fun e w' => e = .returned (.bool true) ∧ Below w.heap.size w w' := by
  have HW := Lib.hid one_write
  have HR := Lib.hid one_read
  go_enter Try.func16, Try.ntmps16
  go_wp2_with fail
  refine (one_any _).mono ?_
  rintro e w1 ⟨rfl, b1⟩
  go_wp2_with fail
  refine (HW.out _).mono ?_
  rintro e w2 ⟨g, rfl, _, hB, b2⟩
  have t2 := Ext.trans b1 b2
  have hp := hB.bs
  clear b1 b2 hB
  go_wp2_with fail
  refine (HR.out _ _ _ _ hp).mono ?_
  rintro e w3 ⟨rfl, b3⟩
  have A3 := BoxOf.new w3 #[.int .u32 7, .int .u32 2, .int .i64 3, .int .i64 1, .int .i64 1, .int .i64 12, .int .i64 1, .int .i64 (-1), .int .i64 0, .bool true] 24
  have t3 := Ext.alloc (Ext.trans t2 b3) (.cells #[.int .u32 7, .int .u32 2, .int .i64 3, .int .i64 1, .int .i64 1, .int .i64 12, .int .i64 1, .int .i64 (-1), .int .i64 0, .bool true] 24)
  clear t2 b3 hp
  go_upto_region 3 with fail
  obtain ⟨g3, hg3⟩ : ∃ g : Nat, g = w3.heap.size := ⟨_, rfl⟩
  rw [← hg3] at A3 ⊢
  clear hg3
  generalize w3.alloc (.cells #[.int .u32 7, .int .u32 2, .int .i64 3, .int .i64 1, .int .i64 1, .int .i64 12, .int .i64 1, .int .i64 (-1), .int .i64 0, .bool true] 24) = v3 at *
  refine wp_region_held_drew (S := fun w' => Below w.heap.size w w' ∧ BoxOf w' g3 #[.int .u32 7, .int .u32 2, .int .i64 3, .int .i64 1, .int .i64 1, .int .i64 12, .int .i64 1, .int .i64 (-1), .int .i64 0, .bool true] 24 ∧ (∀ o, w'.cell? ⟨g3, o, none⟩ = #[.int .u32 7, .int .u32 2, .int .i64 3, .int .i64 1, .int .i64 1, .int .i64 12, .int .i64 1, .int .i64 (-1), .int .i64 0, .bool true].toList[o]?)) (by kernel_rfl) ⟨Ext.drew t3, A3.drew, A3.drew.cell⟩ (fun hS => ?_)
  clear t3 A3
  refine wpAnyH_take (i := 0) (oi := _) (v := ?_) rfl (by kernel_rfl) (by kernel_rfl) (by kernel_rfl) (fun _ _ _ h => h) (Or.inl ⟨by rfl, ?_⟩) hS ?_
  rotate_left
  · (intro w hSw; (try dsimp only at hSw); go_simp; (try with_reducible rfl))
  rotate_left
  simp only [Act.put, List.getElem_toArray, List.getElem_cons_zero, List.getElem_cons_succ, List.setIfInBounds_toArray, List.set_cons_zero, List.set_cons_succ]
  refine wpAnyH_take (i := 1) (oi := _) (v := ?_) rfl (by kernel_rfl) (by kernel_rfl) (by kernel_rfl) (fun _ _ _ h => h) (Or.inl ⟨by rfl, ?_⟩) hS ?_
  rotate_left
  · (intro w hSw; (try dsimp only at hSw); go_simp; (try with_reducible rfl))
  rotate_left
  simp only [Act.put, List.getElem_toArray, List.getElem_cons_zero, List.getElem_cons_succ, List.setIfInBounds_toArray, List.set_cons_zero, List.set_cons_succ]
  refine wpAnyH_take (i := 2) (oi := _) (v := ?_) rfl (by kernel_rfl) (by kernel_rfl) (by kernel_rfl) (fun _ _ _ h => h) (Or.inl ⟨by rfl, ?_⟩) hS ?_
  rotate_left
  · (intro w hSw; (try dsimp only at hSw); go_simp; (try with_reducible rfl))
  rotate_left
  simp only [Act.put, List.getElem_toArray, List.getElem_cons_zero, List.getElem_cons_succ, List.setIfInBounds_toArray, List.set_cons_zero, List.set_cons_succ]
  refine wpAnyH_take (i := 3) (oi := _) (v := ?_) rfl (by kernel_rfl) (by kernel_rfl) (by kernel_rfl) (fun _ _ _ h => h) (Or.inl ⟨by rfl, ?_⟩) hS ?_
  rotate_left
  · (intro w hSw; (try dsimp only at hSw); go_simp; (try with_reducible rfl))
  rotate_left
  simp only [Act.put, List.getElem_toArray, List.getElem_cons_zero, List.getElem_cons_succ, List.setIfInBounds_toArray, List.set_cons_zero, List.set_cons_succ]
  refine wpAnyH_take (i := 4) (oi := _) (v := ?_) rfl (by kernel_rfl) (by kernel_rfl) (by kernel_rfl) (fun _ _ _ h => h) (Or.inl ⟨by rfl, ?_⟩) hS ?_
  rotate_left
  · (intro w hSw; (try dsimp only at hSw); go_simp; (try with_reducible rfl))
  rotate_left
  simp only [Act.put, List.getElem_toArray, List.getElem_cons_zero, List.getElem_cons_succ, List.setIfInBounds_toArray, List.set_cons_zero, List.set_cons_succ]
  refine wpAnyH_take (i := 5) (oi := _) (v := ?_) rfl (by kernel_rfl) (by kernel_rfl) (by kernel_rfl) (fun _ _ _ h => h) (Or.inl ⟨by rfl, ?_⟩) hS ?_
  rotate_left
  · (intro w hSw; (try dsimp only at hSw); go_simp; (try with_reducible rfl))
  rotate_left
  simp only [Act.put, List.getElem_toArray, List.getElem_cons_zero, List.getElem_cons_succ, List.setIfInBounds_toArray, List.set_cons_zero, List.set_cons_succ]
  refine wpAnyH_take (i := 6) (oi := _) (v := ?_) rfl (by kernel_rfl) (by kernel_rfl) (by kernel_rfl) (fun _ _ _ h => h) (Or.inl ⟨by rfl, ?_⟩) hS ?_
  rotate_left
  · (intro w hSw; (try dsimp only at hSw); go_simp; (try with_reducible rfl))
  rotate_left
  simp only [Act.put, List.getElem_toArray, List.getElem_cons_zero, List.getElem_cons_succ, List.setIfInBounds_toArray, List.set_cons_zero, List.set_cons_succ]
  refine wpAnyH_take (i := 7) (oi := _) (v := ?_) rfl (by kernel_rfl) (by kernel_rfl) (by kernel_rfl) (fun _ _ _ h => h) (Or.inl ⟨by rfl, ?_⟩) hS ?_
  rotate_left
  · (intro w hSw; (try dsimp only at hSw); go_simp; (try with_reducible rfl))
  rotate_left
  simp only [Act.put, List.getElem_toArray, List.getElem_cons_zero, List.getElem_cons_succ, List.setIfInBounds_toArray, List.set_cons_zero, List.set_cons_succ]
  refine wpAnyH_take (i := 8) (oi := _) (v := ?_) rfl (by kernel_rfl) (by kernel_rfl) (by kernel_rfl) (fun _ _ _ h => h) (Or.inl ⟨by rfl, ?_⟩) hS ?_
  rotate_left
  · (intro w hSw; (try dsimp only at hSw); go_simp; (try with_reducible rfl))
  rotate_left
  simp only [Act.put, List.getElem_toArray, List.getElem_cons_zero, List.getElem_cons_succ, List.setIfInBounds_toArray, List.set_cons_zero, List.set_cons_succ]
  refine wpAnyH_take (i := 9) (oi := _) (v := ?_) rfl (by kernel_rfl) (by kernel_rfl) (by kernel_rfl) (fun _ _ _ h => h) (Or.inl ⟨by rfl, ?_⟩) hS ?_
  rotate_left
  · (intro w hSw; (try dsimp only at hSw); go_simp; (try with_reducible rfl))
  rotate_left
  simp only [Act.put, List.getElem_toArray, List.getElem_cons_zero, List.getElem_cons_succ, List.setIfInBounds_toArray, List.set_cons_zero, List.set_cons_succ]
  refine wpAnyH_take (i := 10) (oi := _) (v := ?_) rfl (by kernel_rfl) (by kernel_rfl) (by kernel_rfl) (fun _ _ _ h => h) (Or.inl ⟨by rfl, ?_⟩) hS ?_
  rotate_left
  · (intro w hSw; (try dsimp only at hSw); go_simp; (try with_reducible rfl))
  rotate_left
  simp only [Act.put, List.getElem_toArray, List.getElem_cons_zero, List.getElem_cons_succ, List.setIfInBounds_toArray, List.set_cons_zero, List.set_cons_succ]
  refine wpAnyH_take (i := 11) (oi := _) (v := ?_) rfl (by kernel_rfl) (by kernel_rfl) (by kernel_rfl) (fun _ _ _ h => h) (Or.inl ⟨by rfl, ?_⟩) hS ?_
  rotate_left
  · (intro w hSw; (try dsimp only at hSw); go_simp; (try with_reducible rfl))
  rotate_left
  simp only [Act.put, List.getElem_toArray, List.getElem_cons_zero, List.getElem_cons_succ, List.setIfInBounds_toArray, List.set_cons_zero, List.set_cons_succ]
  refine wpAnyH_take (i := 12) (oi := _) (v := ?_) rfl (by kernel_rfl) (by kernel_rfl) (by kernel_rfl) (fun _ _ _ h => h) (Or.inl ⟨by rfl, ?_⟩) hS ?_
  rotate_left
  · (intro w hSw; (try dsimp only at hSw); go_simp; (try with_reducible rfl))
  rotate_left
  simp only [Act.put, List.getElem_toArray, List.getElem_cons_zero, List.getElem_cons_succ, List.setIfInBounds_toArray, List.set_cons_zero, List.set_cons_succ]
  refine wpAnyH_ready (rs := [13]) (by kernel_rfl) (by simp) ?_
  refine AllReadyH.cons rfl (fun K hK => ?_) AllReadyH.nil
  rw [if_pos (by rfl)]
  go_simp
  refine (one_any _).mono ?_
  rintro e w4 ⟨rfl, b4⟩
  refine hK.out _ _ ⟨Ext.trans hS.1 b4, hS.2.1.next b4, (hS.2.1.next b4).cell⟩ (fun hS' => ?_)
  clear b4
  clear hK K hS
  have hS := hS'
  clear hS'
  try simp only [Act.put, List.getElem_toArray, List.getElem_cons_zero, List.getElem_cons_succ, List.setIfInBounds_toArray, List.set_cons_zero, List.set_cons_succ]
  refine wpAnyH_take (i := 14) (oi := _) (v := ?_) rfl (by kernel_rfl) (by kernel_rfl) (by kernel_rfl) (fun _ _ _ h => h) (Or.inl ⟨by rfl, ?_⟩) hS ?_
  rotate_left
  · (intro w hSw; (try dsimp only at hSw); go_simp; (try with_reducible rfl))
  rotate_left
  simp only [Act.put, List.getElem_toArray, List.getElem_cons_zero, List.getElem_cons_succ, List.setIfInBounds_toArray, List.set_cons_zero, List.set_cons_succ]
  refine wpAnyH_take (i := 15) (oi := _) (v := ?_) rfl (by kernel_rfl) (by kernel_rfl) (by kernel_rfl) (fun _ _ _ h => h) (Or.inl ⟨by rfl, ?_⟩) hS ?_
  rotate_left
  · (intro w hSw; (try dsimp only at hSw); go_simp; (try with_reducible rfl))
  rotate_left
  simp only [Act.put, List.getElem_toArray, List.getElem_cons_zero, List.getElem_cons_succ, List.setIfInBounds_toArray, List.set_cons_zero, List.set_cons_succ]
  refine wpAnyH_take (i := 16) (oi := _) (v := ?_) rfl (by kernel_rfl) (by kernel_rfl) (by kernel_rfl) (fun _ _ _ h => h) (Or.inl ⟨by rfl, ?_⟩) hS ?_
  rotate_left
  · (intro w hSw; (try dsimp only at hSw); go_simp; (try with_reducible rfl))
  rotate_left
  simp only [Act.put, List.getElem_toArray, List.getElem_cons_zero, List.getElem_cons_succ, List.setIfInBounds_toArray, List.set_cons_zero, List.set_cons_succ]
  refine wpAnyH_done (by kernel_rfl) ?_ _
  have t5 := hS.1
  clear hS
  go_wp2
  go_ret
  exact ⟨rfl, t5⟩
end Go.Proofs.Ytiomgjfiiibllaa
