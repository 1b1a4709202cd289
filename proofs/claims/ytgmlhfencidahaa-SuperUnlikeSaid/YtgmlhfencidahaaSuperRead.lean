/- Layer 10 (super): Read. -/
import Derived.Test.YtgmlhfencidahaaSuperMap2
import Derived.Test.YtgmlhfencidahaaBox2
import Derived.Deep.DeepCutAuto
namespace Go.Proofs.Ytgmlhfencidahaa
open Go Go.RowKit
set_option linter.unusedSimpArgs false
set_option linter.unusedVariables false

structure MS (w wr : World) (es : Array MapEntry) (c : Nat) : Prop where
  m : wr.heap[w.heap.size + 1]? = some (.map es c)
  a : BoxOf wr w.heap.size #[.int .u32 0, .int .u32 0, .int .u32 0, .int .i64 0] 24
  t : Below w.heap.size w wr
theorem MS.put {w wr : World} {es : Array MapEntry} {c : Nat} (h : MS w wr es c) (es' : Array MapEntry) (c' : Nat) : MS w (ChangeMaps.setBlock wr (w.heap.size + 1) (.map es' c')) es' c' := by
  refine ⟨setBlock_self (heap_lt h.m) _, ?_, ?_⟩
  · have h1 := h.a
    unfold BoxOf at *
    rw [setBlock_other (by omega)]; exact h1
  · exact ⟨h.t.os, h.t.tape, h.t.output, by have := h.t.size; simpa [ChangeMaps.setBlock] using this, fun k hk => by rw [setBlock_other (by omega)]; exact h.t.block k hk⟩

set_option maxRecDepth 100000 in
set_option maxHeartbeats 2000000 in
theorem read_text (A : Option Addr) (n q : Nat) (h0 : n ≠ 0) (h1 : n ≠ 128) (w : World) :
    Calls Try.prog 13 #[.slice A n q] w fun e w' => e = .returned (.tuple #[.agg #[.int .u32 0, .int .u32 0, .int .u32 0, .int .i64 0], .int .i64 3]) ∧ Below w.heap.size w w' := by
  have HT := Lib.hid (fun p k => take_text A n q p k h0 h1)
  clear h0 h1
  have hmm := @run_makeMap Try.prog
  go_enter Try.func13, Try.ntmps13
  go_upto_region 1 with fail
  go_cut [4] (fun s4 wx => s4 = .map (some (w.heap.size + 1)) ∧ MapIs wx (w.heap.size + 1) w.heap.size ∧ BoxOf wx w.heap.size #[.int .u32 0, .int .u32 0, .int .u32 0, .int .i64 0] 24 ∧ Below w.heap.size w wx)
  case first =>
    have A0 := BoxOf.new w #[.int .u32 0, .int .u32 0, .int .u32 0, .int .i64 0] 24
    have t0 := Ext.alloc (Below.refl w.heap.size w) (.cells #[.int .u32 0, .int .u32 0, .int .u32 0, .int .i64 0] 24)
    have hz : (w.alloc (.cells #[.int .u32 0, .int .u32 0, .int .u32 0, .int .i64 0] 24)).heap.size = w.heap.size + 1 := by simp
    generalize w.alloc (.cells #[.int .u32 0, .int .u32 0, .int .u32 0, .int .i64 0] 24) = W at *
    refine wp_region_held_drew (S := fun _ => True) (by kernel_rfl) trivial (fun hS => ?_)
    refine wpAnyH_take (i := 1) (oi := _) (v := ?_) rfl (by kernel_rfl) (by kernel_rfl) (by kernel_rfl) (fun _ _ _ h => h) (Or.inl ⟨by rfl, ?_⟩) hS ?_
    rotate_left
    · (intro w hSw; (try dsimp only at hSw); go_simp; (try with_reducible rfl))
    rotate_left
    simp only [Act.put, List.getElem_toArray, List.getElem_cons_zero, List.getElem_cons_succ, List.setIfInBounds_toArray, List.set_cons_zero, List.set_cons_succ]
    refine wpAnyH_take (i := 3) (oi := _) (v := ?_) rfl (by kernel_rfl) (by kernel_rfl) (by kernel_rfl) (fun _ _ _ h => h) (Or.inl ⟨by rfl, ?_⟩) hS ?_
    rotate_left
    · (intro w hSw; (try dsimp only at hSw); go_simp; (try with_reducible rfl))
    rotate_left
    simp only [Act.put, List.getElem_toArray, List.getElem_cons_zero, List.getElem_cons_succ, List.setIfInBounds_toArray, List.set_cons_zero, List.set_cons_succ]
    refine wpAnyH_take (i := 5) (oi := _) (v := ?_) rfl (by kernel_rfl) (by kernel_rfl) (by kernel_rfl) (fun _ _ _ h => h) (Or.inl ⟨by rfl, ?_⟩) hS ?_
    rotate_left
    · (intro w hSw; (try dsimp only at hSw); go_simp; (try with_reducible rfl))
    rotate_left
    simp only [Act.put, List.getElem_toArray, List.getElem_cons_zero, List.getElem_cons_succ, List.setIfInBounds_toArray, List.set_cons_zero, List.set_cons_succ]
    refine wpAnyH_ready (rs := [0]) (by kernel_rfl) (by simp) ?_
    refine AllReadyH.cons rfl (fun K hK => ?_) AllReadyH.nil
    rw [if_pos (by rfl)]
    go_simp
    refine hK.out _ _ trivial (fun hS => ?_)
    clear hK K
    have hm0 : (W.alloc (.map #[] 0)).drew.heap[W.heap.size]? = some (.map #[] 0) := heap_alloc_new W (.map #[] 0)
    rw [hz] at hm0
    have hM : MS w (W.alloc (.map #[] 0)).drew #[] 0 := ⟨hm0, (A0.alloc _).drew, Ext.drew (Ext.alloc t0 _)⟩
    try simp only [Act.put, List.getElem_toArray, List.getElem_cons_zero, List.getElem_cons_succ, List.setIfInBounds_toArray, List.set_cons_zero, List.set_cons_succ]
    clear A0 t0 hz hm0
    generalize (W.alloc (.map #[] 0)).drew = W0 at hM ⊢
    refine wpAnyH_ready (rs := [2, 4, 6]) (by kernel_rfl) (by simp) ?_
    refine (AllReadyH.cons rfl (fun K hK => ?_) (AllReadyH.cons rfl (fun K hK => ?_) (AllReadyH.cons rfl (fun K hK => ?_) AllReadyH.nil)))
    · rw [if_pos (by rfl)]
      have hput := run_put W0 (w.heap.size + 1) w.heap.size 0 0 #[] (.int .i64 1) hM.m (by simp [ent])
      go_simp
      refine hK.out _ _ trivial (fun hS => ?_)
      clear hput hK K
      have hM2 := hM.put #[ent w.heap.size 0 0] 1
      have hM2 : MS w (ChangeMaps.setBlock W0 (w.heap.size + 1) (.map #[{ key := .pointer (some ⟨w.heap.size, 0, none⟩), val := .int .i64 1, born := 0 }] 1)) #[ent w.heap.size 0 0] 1 := hM2
      clear hM
      generalize ChangeMaps.setBlock W0 (w.heap.size + 1) (.map #[{ key := .pointer (some ⟨w.heap.size, 0, none⟩), val := .int .i64 1, born := 0 }] 1) = W1 at hM2 ⊢
      have hM := hM2
      clear hM2
      obtain ⟨W0, rfl⟩ : ∃ W0 : World, W0 = W1 := ⟨_, rfl⟩
      try simp only [Act.put, List.getElem_toArray, List.getElem_cons_zero, List.getElem_cons_succ, List.setIfInBounds_toArray, List.set_cons_zero, List.set_cons_succ]
      refine wpAnyH_ready (rs := [4, 6]) (by kernel_rfl) (by simp) ?_
      refine (AllReadyH.cons rfl (fun K hK => ?_) (AllReadyH.cons rfl (fun K hK => ?_) AllReadyH.nil))
      · rw [if_pos (by rfl)]
        have hput := run_put W0 (w.heap.size + 1) w.heap.size 1 1 #[ent w.heap.size 0 0] (.int .i64 5) hM.m (by simp [ent])
        go_simp
        refine hK.out _ _ trivial (fun hS => ?_)
        clear hput hK K
        have hM2 := hM.put #[ent w.heap.size 0 0, ent w.heap.size 1 1] 2
        have hM2 : MS w (ChangeMaps.setBlock W0 (w.heap.size + 1) (.map #[ent w.heap.size 0 0, { key := .pointer (some ⟨w.heap.size, 1, none⟩), val := .int .i64 5, born := 1 }] 2)) #[ent w.heap.size 0 0, ent w.heap.size 1 1] 2 := hM2
        clear hM
        generalize ChangeMaps.setBlock W0 (w.heap.size + 1) (.map #[ent w.heap.size 0 0, { key := .pointer (some ⟨w.heap.size, 1, none⟩), val := .int .i64 5, born := 1 }] 2) = W1 at hM2 ⊢
        have hM := hM2
        clear hM2
        obtain ⟨W0, rfl⟩ : ∃ W0 : World, W0 = W1 := ⟨_, rfl⟩
        try simp only [Act.put, List.getElem_toArray, List.getElem_cons_zero, List.getElem_cons_succ, List.setIfInBounds_toArray, List.set_cons_zero, List.set_cons_succ]
        refine wpAnyH_ready (rs := [6]) (by kernel_rfl) (by simp) ?_
        refine (AllReadyH.cons rfl (fun K hK => ?_) AllReadyH.nil)
        · rw [if_pos (by rfl)]
          have hput := run_put W0 (w.heap.size + 1) w.heap.size 2 2 #[ent w.heap.size 0 0, ent w.heap.size 1 1] (.int .i64 9) hM.m (by simp [ent])
          go_simp
          refine hK.out _ _ trivial (fun hS => ?_)
          clear hput hK K
          have hM2 := hM.put #[ent w.heap.size 0 0, ent w.heap.size 1 1, ent w.heap.size 2 2] 3
          have hM2 : MS w (ChangeMaps.setBlock W0 (w.heap.size + 1) (.map #[ent w.heap.size 0 0, ent w.heap.size 1 1, { key := .pointer (some ⟨w.heap.size, 2, none⟩), val := .int .i64 9, born := 2 }] 3)) #[ent w.heap.size 0 0, ent w.heap.size 1 1, ent w.heap.size 2 2] 3 := hM2
          clear hM
          generalize ChangeMaps.setBlock W0 (w.heap.size + 1) (.map #[ent w.heap.size 0 0, ent w.heap.size 1 1, { key := .pointer (some ⟨w.heap.size, 2, none⟩), val := .int .i64 9, born := 2 }] 3) = W1 at hM2 ⊢
          have hM := hM2
          clear hM2
          obtain ⟨W0, rfl⟩ : ∃ W0 : World, W0 = W1 := ⟨_, rfl⟩
          try simp only [Act.put, List.getElem_toArray, List.getElem_cons_zero, List.getElem_cons_succ, List.setIfInBounds_toArray, List.set_cons_zero, List.set_cons_succ]
          refine wpAnyH_take (i := 7) (oi := _) (v := ?_) rfl (by kernel_rfl) (by kernel_rfl) (by kernel_rfl) (fun _ _ _ h => h) (Or.inl ⟨by rfl, ?_⟩) hS ?_
          rotate_left
          · (intro w hSw; (try dsimp only at hSw); go_simp; (try with_reducible rfl))
          rotate_left
          simp only [Act.put, List.getElem_toArray, List.getElem_cons_zero, List.getElem_cons_succ, List.setIfInBounds_toArray, List.set_cons_zero, List.set_cons_succ]
          refine wpAnyH_take (i := 8) (oi := _) (v := ?_) rfl (by kernel_rfl) (by kernel_rfl) (by kernel_rfl) (fun _ _ _ h => h) (Or.inl ⟨by rfl, ?_⟩) hS ?_
          rotate_left
          · (intro w hSw; (try dsimp only at hSw); go_simp; (try with_reducible rfl))
          rotate_left
          simp only [Act.put, List.getElem_toArray, List.getElem_cons_zero, List.getElem_cons_succ, List.setIfInBounds_toArray, List.set_cons_zero, List.set_cons_succ]
          refine wpAnyH_done (by kernel_rfl) ?_ _
          go_wp2_with fail
          go_meet
          exact ⟨rfl, ⟨0, 1, 2, ⟨by decide, by decide, by decide, by decide⟩, hM.m⟩, hM.a, hM.t⟩
      · rw [if_pos (by rfl)]
        have hput := run_put W0 (w.heap.size + 1) w.heap.size 2 1 #[ent w.heap.size 0 0] (.int .i64 9) hM.m (by simp [ent])
        go_simp
        refine hK.out _ _ trivial (fun hS => ?_)
        clear hput hK K
        have hM2 := hM.put #[ent w.heap.size 0 0, ent w.heap.size 2 1] 2
        have hM2 : MS w (ChangeMaps.setBlock W0 (w.heap.size + 1) (.map #[ent w.heap.size 0 0, { key := .pointer (some ⟨w.heap.size, 2, none⟩), val := .int .i64 9, born := 1 }] 2)) #[ent w.heap.size 0 0, ent w.heap.size 2 1] 2 := hM2
        clear hM
        generalize ChangeMaps.setBlock W0 (w.heap.size + 1) (.map #[ent w.heap.size 0 0, { key := .pointer (some ⟨w.heap.size, 2, none⟩), val := .int .i64 9, born := 1 }] 2) = W1 at hM2 ⊢
        have hM := hM2
        clear hM2
        obtain ⟨W0, rfl⟩ : ∃ W0 : World, W0 = W1 := ⟨_, rfl⟩
        try simp only [Act.put, List.getElem_toArray, List.getElem_cons_zero, List.getElem_cons_succ, List.setIfInBounds_toArray, List.set_cons_zero, List.set_cons_succ]
        refine wpAnyH_ready (rs := [4]) (by kernel_rfl) (by simp) ?_
        refine (AllReadyH.cons rfl (fun K hK => ?_) AllReadyH.nil)
        · rw [if_pos (by rfl)]
          have hput := run_put W0 (w.heap.size + 1) w.heap.size 1 2 #[ent w.heap.size 0 0, ent w.heap.size 2 1] (.int .i64 5) hM.m (by simp [ent])
          go_simp
          refine hK.out _ _ trivial (fun hS => ?_)
          clear hput hK K
          have hM2 := hM.put #[ent w.heap.size 0 0, ent w.heap.size 2 1, ent w.heap.size 1 2] 3
          have hM2 : MS w (ChangeMaps.setBlock W0 (w.heap.size + 1) (.map #[ent w.heap.size 0 0, ent w.heap.size 2 1, { key := .pointer (some ⟨w.heap.size, 1, none⟩), val := .int .i64 5, born := 2 }] 3)) #[ent w.heap.size 0 0, ent w.heap.size 2 1, ent w.heap.size 1 2] 3 := hM2
          clear hM
          generalize ChangeMaps.setBlock W0 (w.heap.size + 1) (.map #[ent w.heap.size 0 0, ent w.heap.size 2 1, { key := .pointer (some ⟨w.heap.size, 1, none⟩), val := .int .i64 5, born := 2 }] 3) = W1 at hM2 ⊢
          have hM := hM2
          clear hM2
          obtain ⟨W0, rfl⟩ : ∃ W0 : World, W0 = W1 := ⟨_, rfl⟩
          try simp only [Act.put, List.getElem_toArray, List.getElem_cons_zero, List.getElem_cons_succ, List.setIfInBounds_toArray, List.set_cons_zero, List.set_cons_succ]
          refine wpAnyH_take (i := 7) (oi := _) (v := ?_) rfl (by kernel_rfl) (by kernel_rfl) (by kernel_rfl) (fun _ _ _ h => h) (Or.inl ⟨by rfl, ?_⟩) hS ?_
          rotate_left
          · (intro w hSw; (try dsimp only at hSw); go_simp; (try with_reducible rfl))
          rotate_left
          simp only [Act.put, List.getElem_toArray, List.getElem_cons_zero, List.getElem_cons_succ, List.setIfInBounds_toArray, List.set_cons_zero, List.set_cons_succ]
          refine wpAnyH_take (i := 8) (oi := _) (v := ?_) rfl (by kernel_rfl) (by kernel_rfl) (by kernel_rfl) (fun _ _ _ h => h) (Or.inl ⟨by rfl, ?_⟩) hS ?_
          rotate_left
          · (intro w hSw; (try dsimp only at hSw); go_simp; (try with_reducible rfl))
          rotate_left
          simp only [Act.put, List.getElem_toArray, List.getElem_cons_zero, List.getElem_cons_succ, List.setIfInBounds_toArray, List.set_cons_zero, List.set_cons_succ]
          refine wpAnyH_done (by kernel_rfl) ?_ _
          go_wp2_with fail
          go_meet
          exact ⟨rfl, ⟨0, 2, 1, ⟨by decide, by decide, by decide, by decide⟩, hM.m⟩, hM.a, hM.t⟩
    · rw [if_pos (by rfl)]
      have hput := run_put W0 (w.heap.size + 1) w.heap.size 1 0 #[] (.int .i64 5) hM.m (by simp [ent])
      go_simp
      refine hK.out _ _ trivial (fun hS => ?_)
      clear hput hK K
      have hM2 := hM.put #[ent w.heap.size 1 0] 1
      have hM2 : MS w (ChangeMaps.setBlock W0 (w.heap.size + 1) (.map #[{ key := .pointer (some ⟨w.heap.size, 1, none⟩), val := .int .i64 5, born := 0 }] 1)) #[ent w.heap.size 1 0] 1 := hM2
      clear hM
      generalize ChangeMaps.setBlock W0 (w.heap.size + 1) (.map #[{ key := .pointer (some ⟨w.heap.size, 1, none⟩), val := .int .i64 5, born := 0 }] 1) = W1 at hM2 ⊢
      have hM := hM2
      clear hM2
      obtain ⟨W0, rfl⟩ : ∃ W0 : World, W0 = W1 := ⟨_, rfl⟩
      try simp only [Act.put, List.getElem_toArray, List.getElem_cons_zero, List.getElem_cons_succ, List.setIfInBounds_toArray, List.set_cons_zero, List.set_cons_succ]
      refine wpAnyH_ready (rs := [2, 6]) (by kernel_rfl) (by simp) ?_
      refine (AllReadyH.cons rfl (fun K hK => ?_) (AllReadyH.cons rfl (fun K hK => ?_) AllReadyH.nil))
      · rw [if_pos (by rfl)]
        have hput := run_put W0 (w.heap.size + 1) w.heap.size 0 1 #[ent w.heap.size 1 0] (.int .i64 1) hM.m (by simp [ent])
        go_simp
        refine hK.out _ _ trivial (fun hS => ?_)
        clear hput hK K
        have hM2 := hM.put #[ent w.heap.size 1 0, ent w.heap.size 0 1] 2
        have hM2 : MS w (ChangeMaps.setBlock W0 (w.heap.size + 1) (.map #[ent w.heap.size 1 0, { key := .pointer (some ⟨w.heap.size, 0, none⟩), val := .int .i64 1, born := 1 }] 2)) #[ent w.heap.size 1 0, ent w.heap.size 0 1] 2 := hM2
        clear hM
        generalize ChangeMaps.setBlock W0 (w.heap.size + 1) (.map #[ent w.heap.size 1 0, { key := .pointer (some ⟨w.heap.size, 0, none⟩), val := .int .i64 1, born := 1 }] 2) = W1 at hM2 ⊢
        have hM := hM2
        clear hM2
        obtain ⟨W0, rfl⟩ : ∃ W0 : World, W0 = W1 := ⟨_, rfl⟩
        try simp only [Act.put, List.getElem_toArray, List.getElem_cons_zero, List.getElem_cons_succ, List.setIfInBounds_toArray, List.set_cons_zero, List.set_cons_succ]
        refine wpAnyH_ready (rs := [6]) (by kernel_rfl) (by simp) ?_
        refine (AllReadyH.cons rfl (fun K hK => ?_) AllReadyH.nil)
        · rw [if_pos (by rfl)]
          have hput := run_put W0 (w.heap.size + 1) w.heap.size 2 2 #[ent w.heap.size 1 0, ent w.heap.size 0 1] (.int .i64 9) hM.m (by simp [ent])
          go_simp
          refine hK.out _ _ trivial (fun hS => ?_)
          clear hput hK K
          have hM2 := hM.put #[ent w.heap.size 1 0, ent w.heap.size 0 1, ent w.heap.size 2 2] 3
          have hM2 : MS w (ChangeMaps.setBlock W0 (w.heap.size + 1) (.map #[ent w.heap.size 1 0, ent w.heap.size 0 1, { key := .pointer (some ⟨w.heap.size, 2, none⟩), val := .int .i64 9, born := 2 }] 3)) #[ent w.heap.size 1 0, ent w.heap.size 0 1, ent w.heap.size 2 2] 3 := hM2
          clear hM
          generalize ChangeMaps.setBlock W0 (w.heap.size + 1) (.map #[ent w.heap.size 1 0, ent w.heap.size 0 1, { key := .pointer (some ⟨w.heap.size, 2, none⟩), val := .int .i64 9, born := 2 }] 3) = W1 at hM2 ⊢
          have hM := hM2
          clear hM2
          obtain ⟨W0, rfl⟩ : ∃ W0 : World, W0 = W1 := ⟨_, rfl⟩
          try simp only [Act.put, List.getElem_toArray, List.getElem_cons_zero, List.getElem_cons_succ, List.setIfInBounds_toArray, List.set_cons_zero, List.set_cons_succ]
          refine wpAnyH_take (i := 7) (oi := _) (v := ?_) rfl (by kernel_rfl) (by kernel_rfl) (by kernel_rfl) (fun _ _ _ h => h) (Or.inl ⟨by rfl, ?_⟩) hS ?_
          rotate_left
          · (intro w hSw; (try dsimp only at hSw); go_simp; (try with_reducible rfl))
          rotate_left
          simp only [Act.put, List.getElem_toArray, List.getElem_cons_zero, List.getElem_cons_succ, List.setIfInBounds_toArray, List.set_cons_zero, List.set_cons_succ]
          refine wpAnyH_take (i := 8) (oi := _) (v := ?_) rfl (by kernel_rfl) (by kernel_rfl) (by kernel_rfl) (fun _ _ _ h => h) (Or.inl ⟨by rfl, ?_⟩) hS ?_
          rotate_left
          · (intro w hSw; (try dsimp only at hSw); go_simp; (try with_reducible rfl))
          rotate_left
          simp only [Act.put, List.getElem_toArray, List.getElem_cons_zero, List.getElem_cons_succ, List.setIfInBounds_toArray, List.set_cons_zero, List.set_cons_succ]
          refine wpAnyH_done (by kernel_rfl) ?_ _
          go_wp2_with fail
          go_meet
          exact ⟨rfl, ⟨1, 0, 2, ⟨by decide, by decide, by decide, by decide⟩, hM.m⟩, hM.a, hM.t⟩
      · rw [if_pos (by rfl)]
        have hput := run_put W0 (w.heap.size + 1) w.heap.size 2 1 #[ent w.heap.size 1 0] (.int .i64 9) hM.m (by simp [ent])
        go_simp
        refine hK.out _ _ trivial (fun hS => ?_)
        clear hput hK K
        have hM2 := hM.put #[ent w.heap.size 1 0, ent w.heap.size 2 1] 2
        have hM2 : MS w (ChangeMaps.setBlock W0 (w.heap.size + 1) (.map #[ent w.heap.size 1 0, { key := .pointer (some ⟨w.heap.size, 2, none⟩), val := .int .i64 9, born := 1 }] 2)) #[ent w.heap.size 1 0, ent w.heap.size 2 1] 2 := hM2
        clear hM
        generalize ChangeMaps.setBlock W0 (w.heap.size + 1) (.map #[ent w.heap.size 1 0, { key := .pointer (some ⟨w.heap.size, 2, none⟩), val := .int .i64 9, born := 1 }] 2) = W1 at hM2 ⊢
        have hM := hM2
        clear hM2
        obtain ⟨W0, rfl⟩ : ∃ W0 : World, W0 = W1 := ⟨_, rfl⟩
        try simp only [Act.put, List.getElem_toArray, List.getElem_cons_zero, List.getElem_cons_succ, List.setIfInBounds_toArray, List.set_cons_zero, List.set_cons_succ]
        refine wpAnyH_ready (rs := [2]) (by kernel_rfl) (by simp) ?_
        refine (AllReadyH.cons rfl (fun K hK => ?_) AllReadyH.nil)
        · rw [if_pos (by rfl)]
          have hput := run_put W0 (w.heap.size + 1) w.heap.size 0 2 #[ent w.heap.size 1 0, ent w.heap.size 2 1] (.int .i64 1) hM.m (by simp [ent])
          go_simp
          refine hK.out _ _ trivial (fun hS => ?_)
          clear hput hK K
          have hM2 := hM.put #[ent w.heap.size 1 0, ent w.heap.size 2 1, ent w.heap.size 0 2] 3
          have hM2 : MS w (ChangeMaps.setBlock W0 (w.heap.size + 1) (.map #[ent w.heap.size 1 0, ent w.heap.size 2 1, { key := .pointer (some ⟨w.heap.size, 0, none⟩), val := .int .i64 1, born := 2 }] 3)) #[ent w.heap.size 1 0, ent w.heap.size 2 1, ent w.heap.size 0 2] 3 := hM2
          clear hM
          generalize ChangeMaps.setBlock W0 (w.heap.size + 1) (.map #[ent w.heap.size 1 0, ent w.heap.size 2 1, { key := .pointer (some ⟨w.heap.size, 0, none⟩), val := .int .i64 1, born := 2 }] 3) = W1 at hM2 ⊢
          have hM := hM2
          clear hM2
          obtain ⟨W0, rfl⟩ : ∃ W0 : World, W0 = W1 := ⟨_, rfl⟩
          try simp only [Act.put, List.getElem_toArray, List.getElem_cons_zero, List.getElem_cons_succ, List.setIfInBounds_toArray, List.set_cons_zero, List.set_cons_succ]
          refine wpAnyH_take (i := 7) (oi := _) (v := ?_) rfl (by kernel_rfl) (by kernel_rfl) (by kernel_rfl) (fun _ _ _ h => h) (Or.inl ⟨by rfl, ?_⟩) hS ?_
          rotate_left
          · (intro w hSw; (try dsimp only at hSw); go_simp; (try with_reducible rfl))
          rotate_left
          simp only [Act.put, List.getElem_toArray, List.getElem_cons_zero, List.getElem_cons_succ, List.setIfInBounds_toArray, List.set_cons_zero, List.set_cons_succ]
          refine wpAnyH_take (i := 8) (oi := _) (v := ?_) rfl (by kernel_rfl) (by kernel_rfl) (by kernel_rfl) (fun _ _ _ h => h) (Or.inl ⟨by rfl, ?_⟩) hS ?_
          rotate_left
          · (intro w hSw; (try dsimp only at hSw); go_simp; (try with_reducible rfl))
          rotate_left
          simp only [Act.put, List.getElem_toArray, List.getElem_cons_zero, List.getElem_cons_succ, List.setIfInBounds_toArray, List.set_cons_zero, List.set_cons_succ]
          refine wpAnyH_done (by kernel_rfl) ?_ _
          go_wp2_with fail
          go_meet
          exact ⟨rfl, ⟨1, 2, 0, ⟨by decide, by decide, by decide, by decide⟩, hM.m⟩, hM.a, hM.t⟩
    · rw [if_pos (by rfl)]
      have hput := run_put W0 (w.heap.size + 1) w.heap.size 2 0 #[] (.int .i64 9) hM.m (by simp [ent])
      go_simp
      refine hK.out _ _ trivial (fun hS => ?_)
      clear hput hK K
      have hM2 := hM.put #[ent w.heap.size 2 0] 1
      have hM2 : MS w (ChangeMaps.setBlock W0 (w.heap.size + 1) (.map #[{ key := .pointer (some ⟨w.heap.size, 2, none⟩), val := .int .i64 9, born := 0 }] 1)) #[ent w.heap.size 2 0] 1 := hM2
      clear hM
      generalize ChangeMaps.setBlock W0 (w.heap.size + 1) (.map #[{ key := .pointer (some ⟨w.heap.size, 2, none⟩), val := .int .i64 9, born := 0 }] 1) = W1 at hM2 ⊢
      have hM := hM2
      clear hM2
      obtain ⟨W0, rfl⟩ : ∃ W0 : World, W0 = W1 := ⟨_, rfl⟩
      try simp only [Act.put, List.getElem_toArray, List.getElem_cons_zero, List.getElem_cons_succ, List.setIfInBounds_toArray, List.set_cons_zero, List.set_cons_succ]
      refine wpAnyH_ready (rs := [2, 4]) (by kernel_rfl) (by simp) ?_
      refine (AllReadyH.cons rfl (fun K hK => ?_) (AllReadyH.cons rfl (fun K hK => ?_) AllReadyH.nil))
      · rw [if_pos (by rfl)]
        have hput := run_put W0 (w.heap.size + 1) w.heap.size 0 1 #[ent w.heap.size 2 0] (.int .i64 1) hM.m (by simp [ent])
        go_simp
        refine hK.out _ _ trivial (fun hS => ?_)
        clear hput hK K
        have hM2 := hM.put #[ent w.heap.size 2 0, ent w.heap.size 0 1] 2
        have hM2 : MS w (ChangeMaps.setBlock W0 (w.heap.size + 1) (.map #[ent w.heap.size 2 0, { key := .pointer (some ⟨w.heap.size, 0, none⟩), val := .int .i64 1, born := 1 }] 2)) #[ent w.heap.size 2 0, ent w.heap.size 0 1] 2 := hM2
        clear hM
        generalize ChangeMaps.setBlock W0 (w.heap.size + 1) (.map #[ent w.heap.size 2 0, { key := .pointer (some ⟨w.heap.size, 0, none⟩), val := .int .i64 1, born := 1 }] 2) = W1 at hM2 ⊢
        have hM := hM2
        clear hM2
        obtain ⟨W0, rfl⟩ : ∃ W0 : World, W0 = W1 := ⟨_, rfl⟩
        try simp only [Act.put, List.getElem_toArray, List.getElem_cons_zero, List.getElem_cons_succ, List.setIfInBounds_toArray, List.set_cons_zero, List.set_cons_succ]
        refine wpAnyH_ready (rs := [4]) (by kernel_rfl) (by simp) ?_
        refine (AllReadyH.cons rfl (fun K hK => ?_) AllReadyH.nil)
        · rw [if_pos (by rfl)]
          have hput := run_put W0 (w.heap.size + 1) w.heap.size 1 2 #[ent w.heap.size 2 0, ent w.heap.size 0 1] (.int .i64 5) hM.m (by simp [ent])
          go_simp
          refine hK.out _ _ trivial (fun hS => ?_)
          clear hput hK K
          have hM2 := hM.put #[ent w.heap.size 2 0, ent w.heap.size 0 1, ent w.heap.size 1 2] 3
          have hM2 : MS w (ChangeMaps.setBlock W0 (w.heap.size + 1) (.map #[ent w.heap.size 2 0, ent w.heap.size 0 1, { key := .pointer (some ⟨w.heap.size, 1, none⟩), val := .int .i64 5, born := 2 }] 3)) #[ent w.heap.size 2 0, ent w.heap.size 0 1, ent w.heap.size 1 2] 3 := hM2
          clear hM
          generalize ChangeMaps.setBlock W0 (w.heap.size + 1) (.map #[ent w.heap.size 2 0, ent w.heap.size 0 1, { key := .pointer (some ⟨w.heap.size, 1, none⟩), val := .int .i64 5, born := 2 }] 3) = W1 at hM2 ⊢
          have hM := hM2
          clear hM2
          obtain ⟨W0, rfl⟩ : ∃ W0 : World, W0 = W1 := ⟨_, rfl⟩
          try simp only [Act.put, List.getElem_toArray, List.getElem_cons_zero, List.getElem_cons_succ, List.setIfInBounds_toArray, List.set_cons_zero, List.set_cons_succ]
          refine wpAnyH_take (i := 7) (oi := _) (v := ?_) rfl (by kernel_rfl) (by kernel_rfl) (by kernel_rfl) (fun _ _ _ h => h) (Or.inl ⟨by rfl, ?_⟩) hS ?_
          rotate_left
          · (intro w hSw; (try dsimp only at hSw); go_simp; (try with_reducible rfl))
          rotate_left
          simp only [Act.put, List.getElem_toArray, List.getElem_cons_zero, List.getElem_cons_succ, List.setIfInBounds_toArray, List.set_cons_zero, List.set_cons_succ]
          refine wpAnyH_take (i := 8) (oi := _) (v := ?_) rfl (by kernel_rfl) (by kernel_rfl) (by kernel_rfl) (fun _ _ _ h => h) (Or.inl ⟨by rfl, ?_⟩) hS ?_
          rotate_left
          · (intro w hSw; (try dsimp only at hSw); go_simp; (try with_reducible rfl))
          rotate_left
          simp only [Act.put, List.getElem_toArray, List.getElem_cons_zero, List.getElem_cons_succ, List.setIfInBounds_toArray, List.set_cons_zero, List.set_cons_succ]
          refine wpAnyH_done (by kernel_rfl) ?_ _
          go_wp2_with fail
          go_meet
          exact ⟨rfl, ⟨2, 0, 1, ⟨by decide, by decide, by decide, by decide⟩, hM.m⟩, hM.a, hM.t⟩
      · rw [if_pos (by rfl)]
        have hput := run_put W0 (w.heap.size + 1) w.heap.size 1 1 #[ent w.heap.size 2 0] (.int .i64 5) hM.m (by simp [ent])
        go_simp
        refine hK.out _ _ trivial (fun hS => ?_)
        clear hput hK K
        have hM2 := hM.put #[ent w.heap.size 2 0, ent w.heap.size 1 1] 2
        have hM2 : MS w (ChangeMaps.setBlock W0 (w.heap.size + 1) (.map #[ent w.heap.size 2 0, { key := .pointer (some ⟨w.heap.size, 1, none⟩), val := .int .i64 5, born := 1 }] 2)) #[ent w.heap.size 2 0, ent w.heap.size 1 1] 2 := hM2
        clear hM
        generalize ChangeMaps.setBlock W0 (w.heap.size + 1) (.map #[ent w.heap.size 2 0, { key := .pointer (some ⟨w.heap.size, 1, none⟩), val := .int .i64 5, born := 1 }] 2) = W1 at hM2 ⊢
        have hM := hM2
        clear hM2
        obtain ⟨W0, rfl⟩ : ∃ W0 : World, W0 = W1 := ⟨_, rfl⟩
        try simp only [Act.put, List.getElem_toArray, List.getElem_cons_zero, List.getElem_cons_succ, List.setIfInBounds_toArray, List.set_cons_zero, List.set_cons_succ]
        refine wpAnyH_ready (rs := [2]) (by kernel_rfl) (by simp) ?_
        refine (AllReadyH.cons rfl (fun K hK => ?_) AllReadyH.nil)
        · rw [if_pos (by rfl)]
          have hput := run_put W0 (w.heap.size + 1) w.heap.size 0 2 #[ent w.heap.size 2 0, ent w.heap.size 1 1] (.int .i64 1) hM.m (by simp [ent])
          go_simp
          refine hK.out _ _ trivial (fun hS => ?_)
          clear hput hK K
          have hM2 := hM.put #[ent w.heap.size 2 0, ent w.heap.size 1 1, ent w.heap.size 0 2] 3
          have hM2 : MS w (ChangeMaps.setBlock W0 (w.heap.size + 1) (.map #[ent w.heap.size 2 0, ent w.heap.size 1 1, { key := .pointer (some ⟨w.heap.size, 0, none⟩), val := .int .i64 1, born := 2 }] 3)) #[ent w.heap.size 2 0, ent w.heap.size 1 1, ent w.heap.size 0 2] 3 := hM2
          clear hM
          generalize ChangeMaps.setBlock W0 (w.heap.size + 1) (.map #[ent w.heap.size 2 0, ent w.heap.size 1 1, { key := .pointer (some ⟨w.heap.size, 0, none⟩), val := .int .i64 1, born := 2 }] 3) = W1 at hM2 ⊢
          have hM := hM2
          clear hM2
          obtain ⟨W0, rfl⟩ : ∃ W0 : World, W0 = W1 := ⟨_, rfl⟩
          try simp only [Act.put, List.getElem_toArray, List.getElem_cons_zero, List.getElem_cons_succ, List.setIfInBounds_toArray, List.set_cons_zero, List.set_cons_succ]
          refine wpAnyH_take (i := 7) (oi := _) (v := ?_) rfl (by kernel_rfl) (by kernel_rfl) (by kernel_rfl) (fun _ _ _ h => h) (Or.inl ⟨by rfl, ?_⟩) hS ?_
          rotate_left
          · (intro w hSw; (try dsimp only at hSw); go_simp; (try with_reducible rfl))
          rotate_left
          simp only [Act.put, List.getElem_toArray, List.getElem_cons_zero, List.getElem_cons_succ, List.setIfInBounds_toArray, List.set_cons_zero, List.set_cons_succ]
          refine wpAnyH_take (i := 8) (oi := _) (v := ?_) rfl (by kernel_rfl) (by kernel_rfl) (by kernel_rfl) (fun _ _ _ h => h) (Or.inl ⟨by rfl, ?_⟩) hS ?_
          rotate_left
          · (intro w hSw; (try dsimp only at hSw); go_simp; (try with_reducible rfl))
          rotate_left
          simp only [Act.put, List.getElem_toArray, List.getElem_cons_zero, List.getElem_cons_succ, List.setIfInBounds_toArray, List.set_cons_zero, List.set_cons_succ]
          refine wpAnyH_done (by kernel_rfl) ?_ _
          go_wp2_with fail
          go_meet
          exact ⟨rfl, ⟨2, 1, 0, ⟨by decide, by decide, by decide, by decide⟩, hM.m⟩, hM.a, hM.t⟩
  case rest =>
    obtain ⟨rfl, hmap, hA, ht⟩ := hcut
    go_wp2_with (first
      | (at_range; refine wpList_range_three _ rfl (.tmp 16) _ rfl _ _ Try.underlying55 (w.heap.size + 1) w.heap.size rfl hmap ?_; intro w0 hrr0 b0 hs0))
    go_frame
    have hA0 := hA.next b0
    have t0 := Ext.trans ht b0
    obtain ⟨r, hr⟩ : ∃ r, r = wc.heap.size := ⟨_, rfl⟩
    have hlr : w.heap.size < r := by rw [hr]; exact hA.lt
    rw [← hr] at hrr0 ⊢
    clear hr
    go_loopw [5, 6, 7, 8] (fun _ _ _ _ wr => RR wr (w.heap.size + 1) r w.heap.size (fun _ => true) ∧ BoxOf wr w.heap.size #[.int .u32 0, .int .u32 0, .int .u32 0, .int .i64 0] 24 ∧ Below w.heap.size w wr) (fun _ _ _ _ _ => 0)
    case atStart => exact ⟨hrr0, hA0, t0⟩
    case round =>
      obtain ⟨hrr, hA1, t1⟩ := hrel
      clear hmap hA ht hrr0 b0 hA0 t0
      go_wp2_with (first | (at_next; refine wpList_next_three _ rfl (.tmp 17) rfl (w.heap.size + 1) r w.heap.size _ rfl hrr ?_ ?_; (intro hd; exact absurd (hd 0 (by decide)) (by simp)); intro f w1 hf _ hrr1 hg1 hs1 hen))
      have t2 := Below.grown t1 hg1 t1.size (fun k hk => by cases hk; omega)
      have hA2 := BoxOf.grown hA1 hg1 (by simp; omega)
      clear hrr hrr1 hg1 hs1 t1 hA1
      refine (HT.out _ _ _).mono ?_
      rintro e w2 ⟨rfl, b2⟩
      have t3 := Ext.trans t2 b2
      have B := Lib.hid (hA2.next b2)
      clear t2 hA2 b2 hen
      go_wp2_with (refine wpList_store_rowTo rfl 24 (.tmp 2) (.tmp 31) rfl rfl w.heap.size #[.int .u32 0, .int .u32 0, .int .u32 0, .int .i64 0] rfl rfl 24 #[.int .u32 0, .int .u32 0, .int .u32 0, .int .i64 0] B.out (by kernel_rfl) rfl (by kernel_rfl) ?_)
      exact bodyPost_ret (v := .tuple #[.agg #[.int .u32 0, .int .u32 0, .int .u32 0, .int .i64 0], .int .i64 3]) (Eq.trans (results_row2 (P := Try.prog) (fn := Try.f13) (p := 2) (u := 3) (ty := 24) rfl _ _ w.heap.size 24 #[.int .u32 0, .int .u32 0, .int .u32 0, .int .i64 0] (0, 0) _ rfl (B.out.set _) Try.underlying24 rfl (by kernel_rfl)) rfl) rfl ⟨rfl, Ext.setRow t3 (Nat.le_refl _) _⟩
end Go.Proofs.Ytgmlhfencidahaa
