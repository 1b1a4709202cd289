/- Layer 10 (super): Read, of a block. -/
import Derived.Test.YtgmlhfencidahaaSuperRead
import Derived.Test.YtgmlhfencidahaaSuperMap3
namespace Go.Proofs.Ytgmlhfencidahaa
open Go Go.RowKit
set_option linter.unusedSimpArgs false
set_option linter.unusedVariables false

theorem BoxOf.setCell {w : World} {g : Nat} {cs : Array Value} {t : TypeId} (h : BoxOf w g cs t) (i : Nat) (v : Value) : BoxOf (w.setCell ⟨g, i, none⟩ v) g (cs.setIfInBounds i v) t := by
  unfold BoxOf at *
  simp [World.setCell, Array.getElem?_modify, h]

set_option maxRecDepth 100000 in
set_option maxHeartbeats 2000000 in
theorem read_core (A : Option Addr) (n q : Nat) (bs : List UInt8) (id age sq tl : Nat) (hi : id < 4294967296) (ha : age < 4294967296) (hs : sq < 4294967296)
    (h1 : ∀ W, Bs W A n bs → Calls Try.prog 22 #[.slice A n q, .int .i64 1, .int .i64 4] W fun e w' => e = .returned (.tuple #[.int .i64 id, .int .i64 0]) ∧ Below W.heap.size W w')
    (h2 : ∀ W, Bs W A n bs → Calls Try.prog 22 #[.slice A n q, .int .i64 5, .int .i64 4] W fun e w' => e = .returned (.tuple #[.int .i64 age, .int .i64 0]) ∧ Below W.heap.size W w')
    (h3 : ∀ W, Bs W A n bs → Calls Try.prog 22 #[.slice A n q, .int .i64 9, .int .i64 4] W fun e w' => e = .returned (.tuple #[.int .i64 sq, .int .i64 0]) ∧ Below W.heap.size W w')
    (h4 : ∀ W, Bs W A n bs → Calls Try.prog 22 #[.slice A n q, .int .i64 13, .int .i64 1] W fun e w' => e = .returned (.tuple #[.int .i64 tl, .int .i64 0]) ∧ Below W.heap.size W w')
    (ws : List UInt8) (E : Int) (h5 : ∀ W, Calls Try.prog 10 #[.agg #[.int .u32 (id : Int), .int .u32 (age : Int), .int .u32 (sq : Int), .int .i64 tl]] W fun e w' => ∃ P k c, e = .returned (.tuple #[.slice P k c, .int .i64 E]) ∧ Bs w' P k ws ∧ Below W.heap.size W w')
    (R : Array Value) (C : Int) (hR' : ((E != 0) = true ∧ R = #[.int .u32 0, .int .u32 0, .int .u32 0, .int .i64 0] ∧ C = 90) ∨ (E = 0 ∧ ws ≠ bs ∧ R = #[.int .u32 0, .int .u32 0, .int .u32 0, .int .i64 0] ∧ C = 90) ∨ (E = 0 ∧ ws = bs ∧ R = #[.int .u32 (id : Int), .int .u32 (age : Int), .int .u32 (sq : Int), .int .i64 tl] ∧ C = 0))
    (w : World) (hb : Bs w A n bs) :
    Calls Try.prog 13 #[.slice A n q] w fun e w' => e = .returned (.tuple #[.agg R, .int .i64 C]) ∧ Below w.heap.size w w' := by
  have HT1 := Lib.hid h1
  have HT2 := Lib.hid h2
  have HT3 := Lib.hid h3
  have HT4 := Lib.hid h4
  have HW := Lib.hid h5
  have HR := Lib.hid hR'
  have W1 : Hid (IntKind.u32.wrap (id : Int) = id) := Lib.hid (IntWalk.u32_in _ (by omega))
  have W2 : Hid (IntKind.u32.wrap (age : Int) = age) := Lib.hid (IntWalk.u32_in _ (by omega))
  have W3 : Hid (IntKind.u32.wrap (sq : Int) = sq) := Lib.hid (IntWalk.u32_in _ (by omega))
  clear h1 h2 h3 h4 h5 hR' hi ha hs
  have hmm := @run_makeMap Try.prog
  go_enter Try.func13, Try.ntmps13
  go_upto_region 1 with fail
  go_cut [4] (fun s4 wx => s4 = .map (some (w.heap.size + 1)) ∧ MapIs wx (w.heap.size + 1) w.heap.size ∧ BoxOf wx w.heap.size #[.int .u32 0, .int .u32 0, .int .u32 0, .int .i64 0] 24 ∧ Below w.heap.size w wx)
  case first =>
    have A0 := BoxOf.new w #[.int .u32 0, .int .u32 0, .int .u32 0, .int .i64 0] 24
    have t0 := Ext.alloc (Below.refl w.heap.size w) (.cells #[.int .u32 0, .int .u32 0, .int .u32 0, .int .i64 0] 24)
    have hz : (w.alloc (.cells #[.int .u32 0, .int .u32 0, .int .u32 0, .int .i64 0] 24)).heap.size = w.heap.size + 1 := by simp
    generalize w.alloc (.cells #[.int .u32 0, .int .u32 0, .int .u32 0, .int .i64 0] 24) = W at *
    refine wp_region_held_drew (S := fun _ => True) (by kernel_rfl) trivial (fun hS => ?_)
    refine wpAnyH_take (i := 1) (oi := _) (v := ?_) rfl (by kernel_rfl) (by kernel_rfl) (by kernel_rfl) (fun _ _ _ h => h) (Or.inl ⟨by rfl, ?_⟩) hS ?_
    rotate_left
    · (intro w hSw; (try dsimp only at hSw); go_simp; (try with_reducible rfl))
    rotate_left
    simp only [Act.put, List.getElem_toArray, List.getElem_cons_zero, List.getElem_cons_succ, List.setIfInBounds_toArray, List.set_cons_zero, List.set_cons_succ]
    refine wpAnyH_take (i := 3) (oi := _) (v := ?_) rfl (by kernel_rfl) (by kernel_rfl) (by kernel_rfl) (fun _ _ _ h => h) (Or.inl ⟨by rfl, ?_⟩) hS ?_
    rotate_left
    · (intro w hSw; (try dsimp only at hSw); go_simp; (try with_reducible rfl))
    rotate_left
    simp only [Act.put, List.getElem_toArray, List.getElem_cons_zero, List.getElem_cons_succ, List.setIfInBounds_toArray, List.set_cons_zero, List.set_cons_succ]
    refine wpAnyH_take (i := 5) (oi := _) (v := ?_) rfl (by kernel_rfl) (by kernel_rfl) (by kernel_rfl) (fun _ _ _ h => h) (Or.inl ⟨by rfl, ?_⟩) hS ?_
    rotate_left
    · (intro w hSw; (try dsimp only at hSw); go_simp; (try with_reducible rfl))
    rotate_left
    simp only [Act.put, List.getElem_toArray, List.getElem_cons_zero, List.getElem_cons_succ, List.setIfInBounds_toArray, List.set_cons_zero, List.set_cons_succ]
    refine wpAnyH_ready (rs := [0]) (by kernel_rfl) (by simp) ?_
    refine AllReadyH.cons rfl (fun K hK => ?_) AllReadyH.nil
    rw [if_pos (by rfl)]
    go_simp
    refine hK.out _ _ trivial (fun hS => ?_)
    clear hK K
    have hm0 : (W.alloc (.map #[] 0)).drew.heap[W.heap.size]? = some (.map #[] 0) := heap_alloc_new W (.map #[] 0)
    rw [hz] at hm0
    have hM : MS w (W.alloc (.map #[] 0)).drew #[] 0 := ⟨hm0, (A0.alloc _).drew, Ext.drew (Ext.alloc t0 _)⟩
    try simp only [Act.put, List.getElem_toArray, List.getElem_cons_zero, List.getElem_cons_succ, List.setIfInBounds_toArray, List.set_cons_zero, List.set_cons_succ]
    clear A0 t0 hz hm0
    generalize (W.alloc (.map #[] 0)).drew = W0 at hM ⊢
    refine wpAnyH_ready (rs := [2, 4, 6]) (by kernel_rfl) (by simp) ?_
    refine (AllReadyH.cons rfl (fun K hK => ?_) (AllReadyH.cons rfl (fun K hK => ?_) (AllReadyH.cons rfl (fun K hK => ?_) AllReadyH.nil)))
    · rw [if_pos (by rfl)]
      have hput := run_put W0 (w.heap.size + 1) w.heap.size 0 0 #[] (.int .i64 1) hM.m (by simp [ent])
      go_simp
      refine hK.out _ _ trivial (fun hS => ?_)
      clear hput hK K
      have hM2 := hM.put #[ent w.heap.size 0 0] 1
      have hM2 : MS w (ChangeMaps.setBlock W0 (w.heap.size + 1) (.map #[{ key := .pointer (some ⟨w.heap.size, 0, none⟩), val := .int .i64 1, born := 0 }] 1)) #[ent w.heap.size 0 0] 1 := hM2
      clear hM
      generalize ChangeMaps.setBlock W0 (w.heap.size + 1) (.map #[{ key := .pointer (some ⟨w.heap.size, 0, none⟩), val := .int .i64 1, born := 0 }] 1) = W1 at hM2 ⊢
      have hM := hM2
      clear hM2
      obtain ⟨W0, rfl⟩ : ∃ W0 : World, W0 = W1 := ⟨_, rfl⟩
      try simp only [Act.put, List.getElem_toArray, List.getElem_cons_zero, List.getElem_cons_succ, List.setIfInBounds_toArray, List.set_cons_zero, List.set_cons_succ]
      refine wpAnyH_ready (rs := [4, 6]) (by kernel_rfl) (by simp) ?_
      refine (AllReadyH.cons rfl (fun K hK => ?_) (AllReadyH.cons rfl (fun K hK => ?_) AllReadyH.nil))
      · rw [if_pos (by rfl)]
        have hput := run_put W0 (w.heap.size + 1) w.heap.size 1 1 #[ent w.heap.size 0 0] (.int .i64 5) hM.m (by simp [ent])
        go_simp
        refine hK.out _ _ trivial (fun hS => ?_)
        clear hput hK K
        have hM2 := hM.put #[ent w.heap.size 0 0, ent w.heap.size 1 1] 2
        have hM2 : MS w (ChangeMaps.setBlock W0 (w.heap.size + 1) (.map #[ent w.heap.size 0 0, { key := .pointer (some ⟨w.heap.size, 1, none⟩), val := .int .i64 5, born := 1 }] 2)) #[ent w.heap.size 0 0, ent w.heap.size 1 1] 2 := hM2
        clear hM
        generalize ChangeMaps.setBlock W0 (w.heap.size + 1) (.map #[ent w.heap.size 0 0, { key := .pointer (some ⟨w.heap.size, 1, none⟩), val := .int .i64 5, born := 1 }] 2) = W1 at hM2 ⊢
        have hM := hM2
        clear hM2
        obtain ⟨W0, rfl⟩ : ∃ W0 : World, W0 = W1 := ⟨_, rfl⟩
        try simp only [Act.put, List.getElem_toArray, List.getElem_cons_zero, List.getElem_cons_succ, List.setIfInBounds_toArray, List.set_cons_zero, List.set_cons_succ]
        refine wpAnyH_ready (rs := [6]) (by kernel_rfl) (by simp) ?_
        refine (AllReadyH.cons rfl (fun K hK => ?_) AllReadyH.nil)
        · rw [if_pos (by rfl)]
          have hput := run_put W0 (w.heap.size + 1) w.heap.size 2 2 #[ent w.heap.size 0 0, ent w.heap.size 1 1] (.int .i64 9) hM.m (by simp [ent])
          go_simp
          refine hK.out _ _ trivial (fun hS => ?_)
          clear hput hK K
          have hM2 := hM.put #[ent w.heap.size 0 0, ent w.heap.size 1 1, ent w.heap.size 2 2] 3
          have hM2 : MS w (ChangeMaps.setBlock W0 (w.heap.size + 1) (.map #[ent w.heap.size 0 0, ent w.heap.size 1 1, { key := .pointer (some ⟨w.heap.size, 2, none⟩), val := .int .i64 9, born := 2 }] 3)) #[ent w.heap.size 0 0, ent w.heap.size 1 1, ent w.heap.size 2 2] 3 := hM2
          clear hM
          generalize ChangeMaps.setBlock W0 (w.heap.size + 1) (.map #[ent w.heap.size 0 0, ent w.heap.size 1 1, { key := .pointer (some ⟨w.heap.size, 2, none⟩), val := .int .i64 9, born := 2 }] 3) = W1 at hM2 ⊢
          have hM := hM2
          clear hM2
          obtain ⟨W0, rfl⟩ : ∃ W0 : World, W0 = W1 := ⟨_, rfl⟩
          try simp only [Act.put, List.getElem_toArray, List.getElem_cons_zero, List.getElem_cons_succ, List.setIfInBounds_toArray, List.set_cons_zero, List.set_cons_succ]
          refine wpAnyH_take (i := 7) (oi := _) (v := ?_) rfl (by kernel_rfl) (by kernel_rfl) (by kernel_rfl) (fun _ _ _ h => h) (Or.inl ⟨by rfl, ?_⟩) hS ?_
          rotate_left
          · (intro w hSw; (try dsimp only at hSw); go_simp; (try with_reducible rfl))
          rotate_left
          simp only [Act.put, List.getElem_toArray, List.getElem_cons_zero, List.getElem_cons_succ, List.setIfInBounds_toArray, List.set_cons_zero, List.set_cons_succ]
          refine wpAnyH_take (i := 8) (oi := _) (v := ?_) rfl (by kernel_rfl) (by kernel_rfl) (by kernel_rfl) (fun _ _ _ h => h) (Or.inl ⟨by rfl, ?_⟩) hS ?_
          rotate_left
          · (intro w hSw; (try dsimp only at hSw); go_simp; (try with_reducible rfl))
          rotate_left
          simp only [Act.put, List.getElem_toArray, List.getElem_cons_zero, List.getElem_cons_succ, List.setIfInBounds_toArray, List.set_cons_zero, List.set_cons_succ]
          refine wpAnyH_done (by kernel_rfl) ?_ _
          go_wp2_with fail
          go_meet
          exact ⟨rfl, ⟨0, 1, 2, ⟨by decide, by decide, by decide, by decide⟩, hM.m⟩, hM.a, hM.t⟩
      · rw [if_pos (by rfl)]
        have hput := run_put W0 (w.heap.size + 1) w.heap.size 2 1 #[ent w.heap.size 0 0] (.int .i64 9) hM.m (by simp [ent])
        go_simp
        refine hK.out _ _ trivial (fun hS => ?_)
        clear hput hK K
        have hM2 := hM.put #[ent w.heap.size 0 0, ent w.heap.size 2 1] 2
        have hM2 : MS w (ChangeMaps.setBlock W0 (w.heap.size + 1) (.map #[ent w.heap.size 0 0, { key := .pointer (some ⟨w.heap.size, 2, none⟩), val := .int .i64 9, born := 1 }] 2)) #[ent w.heap.size 0 0, ent w.heap.size 2 1] 2 := hM2
        clear hM
        generalize ChangeMaps.setBlock W0 (w.heap.size + 1) (.map #[ent w.heap.size 0 0, { key := .pointer (some ⟨w.heap.size, 2, none⟩), val := .int .i64 9, born := 1 }] 2) = W1 at hM2 ⊢
        have hM := hM2
        clear hM2
        obtain ⟨W0, rfl⟩ : ∃ W0 : World, W0 = W1 := ⟨_, rfl⟩
        try simp only [Act.put, List.getElem_toArray, List.getElem_cons_zero, List.getElem_cons_succ, List.setIfInBounds_toArray, List.set_cons_zero, List.set_cons_succ]
        refine wpAnyH_ready (rs := [4]) (by kernel_rfl) (by simp) ?_
        refine (AllReadyH.cons rfl (fun K hK => ?_) AllReadyH.nil)
        · rw [if_pos (by rfl)]
          have hput := run_put W0 (w.heap.size + 1) w.heap.size 1 2 #[ent w.heap.size 0 0, ent w.heap.size 2 1] (.int .i64 5) hM.m (by simp [ent])
          go_simp
          refine hK.out _ _ trivial (fun hS => ?_)
          clear hput hK K
          have hM2 := hM.put #[ent w.heap.size 0 0, ent w.heap.size 2 1, ent w.heap.size 1 2] 3
          have hM2 : MS w (ChangeMaps.setBlock W0 (w.heap.size + 1) (.map #[ent w.heap.size 0 0, ent w.heap.size 2 1, { key := .pointer (some ⟨w.heap.size, 1, none⟩), val := .int .i64 5, born := 2 }] 3)) #[ent w.heap.size 0 0, ent w.heap.size 2 1, ent w.heap.size 1 2] 3 := hM2
          clear hM
          generalize ChangeMaps.setBlock W0 (w.heap.size + 1) (.map #[ent w.heap.size 0 0, ent w.heap.size 2 1, { key := .pointer (some ⟨w.heap.size, 1, none⟩), val := .int .i64 5, born := 2 }] 3) = W1 at hM2 ⊢
          have hM := hM2
          clear hM2
          obtain ⟨W0, rfl⟩ : ∃ W0 : World, W0 = W1 := ⟨_, rfl⟩
          try simp only [Act.put, List.getElem_toArray, List.getElem_cons_zero, List.getElem_cons_succ, List.setIfInBounds_toArray, List.set_cons_zero, List.set_cons_succ]
          refine wpAnyH_take (i := 7) (oi := _) (v := ?_) rfl (by kernel_rfl) (by kernel_rfl) (by kernel_rfl) (fun _ _ _ h => h) (Or.inl ⟨by rfl, ?_⟩) hS ?_
          rotate_left
          · (intro w hSw; (try dsimp only at hSw); go_simp; (try with_reducible rfl))
          rotate_left
          simp only [Act.put, List.getElem_toArray, List.getElem_cons_zero, List.getElem_cons_succ, List.setIfInBounds_toArray, List.set_cons_zero, List.set_cons_succ]
          refine wpAnyH_take (i := 8) (oi := _) (v := ?_) rfl (by kernel_rfl) (by kernel_rfl) (by kernel_rfl) (fun _ _ _ h => h) (Or.inl ⟨by rfl, ?_⟩) hS ?_
          rotate_left
          · (intro w hSw; (try dsimp only at hSw); go_simp; (try with_reducible rfl))
          rotate_left
          simp only [Act.put, List.getElem_toArray, List.getElem_cons_zero, List.getElem_cons_succ, List.setIfInBounds_toArray, List.set_cons_zero, List.set_cons_succ]
          refine wpAnyH_done (by kernel_rfl) ?_ _
          go_wp2_with fail
          go_meet
          exact ⟨rfl, ⟨0, 2, 1, ⟨by decide, by decide, by decide, by decide⟩, hM.m⟩, hM.a, hM.t⟩
    · rw [if_pos (by rfl)]
      have hput := run_put W0 (w.heap.size + 1) w.heap.size 1 0 #[] (.int .i64 5) hM.m (by simp [ent])
      go_simp
      refine hK.out _ _ trivial (fun hS => ?_)
      clear hput hK K
      have hM2 := hM.put #[ent w.heap.size 1 0] 1
      have hM2 : MS w (ChangeMaps.setBlock W0 (w.heap.size + 1) (.map #[{ key := .pointer (some ⟨w.heap.size, 1, none⟩), val := .int .i64 5, born := 0 }] 1)) #[ent w.heap.size 1 0] 1 := hM2
      clear hM
      generalize ChangeMaps.setBlock W0 (w.heap.size + 1) (.map #[{ key := .pointer (some ⟨w.heap.size, 1, none⟩), val := .int .i64 5, born := 0 }] 1) = W1 at hM2 ⊢
      have hM := hM2
      clear hM2
      obtain ⟨W0, rfl⟩ : ∃ W0 : World, W0 = W1 := ⟨_, rfl⟩
      try simp only [Act.put, List.getElem_toArray, List.getElem_cons_zero, List.getElem_cons_succ, List.setIfInBounds_toArray, List.set_cons_zero, List.set_cons_succ]
      refine wpAnyH_ready (rs := [2, 6]) (by kernel_rfl) (by simp) ?_
      refine (AllReadyH.cons rfl (fun K hK => ?_) (AllReadyH.cons rfl (fun K hK => ?_) AllReadyH.nil))
      · rw [if_pos (by rfl)]
        have hput := run_put W0 (w.heap.size + 1) w.heap.size 0 1 #[ent w.heap.size 1 0] (.int .i64 1) hM.m (by simp [ent])
        go_simp
        refine hK.out _ _ trivial (fun hS => ?_)
        clear hput hK K
        have hM2 := hM.put #[ent w.heap.size 1 0, ent w.heap.size 0 1] 2
        have hM2 : MS w (ChangeMaps.setBlock W0 (w.heap.size + 1) (.map #[ent w.heap.size 1 0, { key := .pointer (some ⟨w.heap.size, 0, none⟩), val := .int .i64 1, born := 1 }] 2)) #[ent w.heap.size 1 0, ent w.heap.size 0 1] 2 := hM2
        clear hM
        generalize ChangeMaps.setBlock W0 (w.heap.size + 1) (.map #[ent w.heap.size 1 0, { key := .pointer (some ⟨w.heap.size, 0, none⟩), val := .int .i64 1, born := 1 }] 2) = W1 at hM2 ⊢
        have hM := hM2
        clear hM2
        obtain ⟨W0, rfl⟩ : ∃ W0 : World, W0 = W1 := ⟨_, rfl⟩
        try simp only [Act.put, List.getElem_toArray, List.getElem_cons_zero, List.getElem_cons_succ, List.setIfInBounds_toArray, List.set_cons_zero, List.set_cons_succ]
        refine wpAnyH_ready (rs := [6]) (by kernel_rfl) (by simp) ?_
        refine (AllReadyH.cons rfl (fun K hK => ?_) AllReadyH.nil)
        · rw [if_pos (by rfl)]
          have hput := run_put W0 (w.heap.size + 1) w.heap.size 2 2 #[ent w.heap.size 1 0, ent w.heap.size 0 1] (.int .i64 9) hM.m (by simp [ent])
          go_simp
          refine hK.out _ _ trivial (fun hS => ?_)
          clear hput hK K
          have hM2 := hM.put #[ent w.heap.size 1 0, ent w.heap.size 0 1, ent w.heap.size 2 2] 3
          have hM2 : MS w (ChangeMaps.setBlock W0 (w.heap.size + 1) (.map #[ent w.heap.size 1 0, ent w.heap.size 0 1, { key := .pointer (some ⟨w.heap.size, 2, none⟩), val := .int .i64 9, born := 2 }] 3)) #[ent w.heap.size 1 0, ent w.heap.size 0 1, ent w.heap.size 2 2] 3 := hM2
          clear hM
          generalize ChangeMaps.setBlock W0 (w.heap.size + 1) (.map #[ent w.heap.size 1 0, ent w.heap.size 0 1, { key := .pointer (some ⟨w.heap.size, 2, none⟩), val := .int .i64 9, born := 2 }] 3) = W1 at hM2 ⊢
          have hM := hM2
          clear hM2
          obtain ⟨W0, rfl⟩ : ∃ W0 : World, W0 = W1 := ⟨_, rfl⟩
          try simp only [Act.put, List.getElem_toArray, List.getElem_cons_zero, List.getElem_cons_succ, List.setIfInBounds_toArray, List.set_cons_zero, List.set_cons_succ]
          refine wpAnyH_take (i := 7) (oi := _) (v := ?_) rfl (by kernel_rfl) (by kernel_rfl) (by kernel_rfl) (fun _ _ _ h => h) (Or.inl ⟨by rfl, ?_⟩) hS ?_
          rotate_left
          · (intro w hSw; (try dsimp only at hSw); go_simp; (try with_reducible rfl))
          rotate_left
          simp only [Act.put, List.getElem_toArray, List.getElem_cons_zero, List.getElem_cons_succ, List.setIfInBounds_toArray, List.set_cons_zero, List.set_cons_succ]
          refine wpAnyH_take (i := 8) (oi := _) (v := ?_) rfl (by kernel_rfl) (by kernel_rfl) (by kernel_rfl) (fun _ _ _ h => h) (Or.inl ⟨by rfl, ?_⟩) hS ?_
          rotate_left
          · (intro w hSw; (try dsimp only at hSw); go_simp; (try with_reducible rfl))
          rotate_left
          simp only [Act.put, List.getElem_toArray, List.getElem_cons_zero, List.getElem_cons_succ, List.setIfInBounds_toArray, List.set_cons_zero, List.set_cons_succ]
          refine wpAnyH_done (by kernel_rfl) ?_ _
          go_wp2_with fail
          go_meet
          exact ⟨rfl, ⟨1, 0, 2, ⟨by decide, by decide, by decide, by decide⟩, hM.m⟩, hM.a, hM.t⟩
      · rw [if_pos (by rfl)]
        have hput := run_put W0 (w.heap.size + 1) w.heap.size 2 1 #[ent w.heap.size 1 0] (.int .i64 9) hM.m (by simp [ent])
        go_simp
        refine hK.out _ _ trivial (fun hS => ?_)
        clear hput hK K
        have hM2 := hM.put #[ent w.heap.size 1 0, ent w.heap.size 2 1] 2
        have hM2 : MS w (ChangeMaps.setBlock W0 (w.heap.size + 1) (.map #[ent w.heap.size 1 0, { key := .pointer (some ⟨w.heap.size, 2, none⟩), val := .int .i64 9, born := 1 }] 2)) #[ent w.heap.size 1 0, ent w.heap.size 2 1] 2 := hM2
        clear hM
        generalize ChangeMaps.setBlock W0 (w.heap.size + 1) (.map #[ent w.heap.size 1 0, { key := .pointer (some ⟨w.heap.size, 2, none⟩), val := .int .i64 9, born := 1 }] 2) = W1 at hM2 ⊢
        have hM := hM2
        clear hM2
        obtain ⟨W0, rfl⟩ : ∃ W0 : World, W0 = W1 := ⟨_, rfl⟩
        try simp only [Act.put, List.getElem_toArray, List.getElem_cons_zero, List.getElem_cons_succ, List.setIfInBounds_toArray, List.set_cons_zero, List.set_cons_succ]
        refine wpAnyH_ready (rs := [2]) (by kernel_rfl) (by simp) ?_
        refine (AllReadyH.cons rfl (fun K hK => ?_) AllReadyH.nil)
        · rw [if_pos (by rfl)]
          have hput := run_put W0 (w.heap.size + 1) w.heap.size 0 2 #[ent w.heap.size 1 0, ent w.heap.size 2 1] (.int .i64 1) hM.m (by simp [ent])
          go_simp
          refine hK.out _ _ trivial (fun hS => ?_)
          clear hput hK K
          have hM2 := hM.put #[ent w.heap.size 1 0, ent w.heap.size 2 1, ent w.heap.size 0 2] 3
          have hM2 : MS w (ChangeMaps.setBlock W0 (w.heap.size + 1) (.map #[ent w.heap.size 1 0, ent w.heap.size 2 1, { key := .pointer (some ⟨w.heap.size, 0, none⟩), val := .int .i64 1, born := 2 }] 3)) #[ent w.heap.size 1 0, ent w.heap.size 2 1, ent w.heap.size 0 2] 3 := hM2
          clear hM
          generalize ChangeMaps.setBlock W0 (w.heap.size + 1) (.map #[ent w.heap.size 1 0, ent w.heap.size 2 1, { key := .pointer (some ⟨w.heap.size, 0, none⟩), val := .int .i64 1, born := 2 }] 3) = W1 at hM2 ⊢
          have hM := hM2
          clear hM2
          obtain ⟨W0, rfl⟩ : ∃ W0 : World, W0 = W1 := ⟨_, rfl⟩
          try simp only [Act.put, List.getElem_toArray, List.getElem_cons_zero, List.getElem_cons_succ, List.setIfInBounds_toArray, List.set_cons_zero, List.set_cons_succ]
          refine wpAnyH_take (i := 7) (oi := _) (v := ?_) rfl (by kernel_rfl) (by kernel_rfl) (by kernel_rfl) (fun _ _ _ h => h) (Or.inl ⟨by rfl, ?_⟩) hS ?_
          rotate_left
          · (intro w hSw; (try dsimp only at hSw); go_simp; (try with_reducible rfl))
          rotate_left
          simp only [Act.put, List.getElem_toArray, List.getElem_cons_zero, List.getElem_cons_succ, List.setIfInBounds_toArray, List.set_cons_zero, List.set_cons_succ]
          refine wpAnyH_take (i := 8) (oi := _) (v := ?_) rfl (by kernel_rfl) (by kernel_rfl) (by kernel_rfl) (fun _ _ _ h => h) (Or.inl ⟨by rfl, ?_⟩) hS ?_
          rotate_left
          · (intro w hSw; (try dsimp only at hSw); go_simp; (try with_reducible rfl))
          rotate_left
          simp only [Act.put, List.getElem_toArray, List.getElem_cons_zero, List.getElem_cons_succ, List.setIfInBounds_toArray, List.set_cons_zero, List.set_cons_succ]
          refine wpAnyH_done (by kernel_rfl) ?_ _
          go_wp2_with fail
          go_meet
          exact ⟨rfl, ⟨1, 2, 0, ⟨by decide, by decide, by decide, by decide⟩, hM.m⟩, hM.a, hM.t⟩
    · rw [if_pos (by rfl)]
      have hput := run_put W0 (w.heap.size + 1) w.heap.size 2 0 #[] (.int .i64 9) hM.m (by simp [ent])
      go_simp
      refine hK.out _ _ trivial (fun hS => ?_)
      clear hput hK K
      have hM2 := hM.put #[ent w.heap.size 2 0] 1
      have hM2 : MS w (ChangeMaps.setBlock W0 (w.heap.size + 1) (.map #[{ key := .pointer (some ⟨w.heap.size, 2, none⟩), val := .int .i64 9, born := 0 }] 1)) #[ent w.heap.size 2 0] 1 := hM2
      clear hM
      generalize ChangeMaps.setBlock W0 (w.heap.size + 1) (.map #[{ key := .pointer (some ⟨w.heap.size, 2, none⟩), val := .int .i64 9, born := 0 }] 1) = W1 at hM2 ⊢
      have hM := hM2
      clear hM2
      obtain ⟨W0, rfl⟩ : ∃ W0 : World, W0 = W1 := ⟨_, rfl⟩
      try simp only [Act.put, List.getElem_toArray, List.getElem_cons_zero, List.getElem_cons_succ, List.setIfInBounds_toArray, List.set_cons_zero, List.set_cons_succ]
      refine wpAnyH_ready (rs := [2, 4]) (by kernel_rfl) (by simp) ?_
      refine (AllReadyH.cons rfl (fun K hK => ?_) (AllReadyH.cons rfl (fun K hK => ?_) AllReadyH.nil))
      · rw [if_pos (by rfl)]
        have hput := run_put W0 (w.heap.size + 1) w.heap.size 0 1 #[ent w.heap.size 2 0] (.int .i64 1) hM.m (by simp [ent])
        go_simp
        refine hK.out _ _ trivial (fun hS => ?_)
        clear hput hK K
        have hM2 := hM.put #[ent w.heap.size 2 0, ent w.heap.size 0 1] 2
        have hM2 : MS w (ChangeMaps.setBlock W0 (w.heap.size + 1) (.map #[ent w.heap.size 2 0, { key := .pointer (some ⟨w.heap.size, 0, none⟩), val := .int .i64 1, born := 1 }] 2)) #[ent w.heap.size 2 0, ent w.heap.size 0 1] 2 := hM2
        clear hM
        generalize ChangeMaps.setBlock W0 (w.heap.size + 1) (.map #[ent w.heap.size 2 0, { key := .pointer (some ⟨w.heap.size, 0, none⟩), val := .int .i64 1, born := 1 }] 2) = W1 at hM2 ⊢
        have hM := hM2
        clear hM2
        obtain ⟨W0, rfl⟩ : ∃ W0 : World, W0 = W1 := ⟨_, rfl⟩
        try simp only [Act.put, List.getElem_toArray, List.getElem_cons_zero, List.getElem_cons_succ, List.setIfInBounds_toArray, List.set_cons_zero, List.set_cons_succ]
        refine wpAnyH_ready (rs := [4]) (by kernel_rfl) (by simp) ?_
        refine (AllReadyH.cons rfl (fun K hK => ?_) AllReadyH.nil)
        · rw [if_pos (by rfl)]
          have hput := run_put W0 (w.heap.size + 1) w.heap.size 1 2 #[ent w.heap.size 2 0, ent w.heap.size 0 1] (.int .i64 5) hM.m (by simp [ent])
          go_simp
          refine hK.out _ _ trivial (fun hS => ?_)
          clear hput hK K
          have hM2 := hM.put #[ent w.heap.size 2 0, ent w.heap.size 0 1, ent w.heap.size 1 2] 3
          have hM2 : MS w (ChangeMaps.setBlock W0 (w.heap.size + 1) (.map #[ent w.heap.size 2 0, ent w.heap.size 0 1, { key := .pointer (some ⟨w.heap.size, 1, none⟩), val := .int .i64 5, born := 2 }] 3)) #[ent w.heap.size 2 0, ent w.heap.size 0 1, ent w.heap.size 1 2] 3 := hM2
          clear hM
          generalize ChangeMaps.setBlock W0 (w.heap.size + 1) (.map #[ent w.heap.size 2 0, ent w.heap.size 0 1, { key := .pointer (some ⟨w.heap.size, 1, none⟩), val := .int .i64 5, born := 2 }] 3) = W1 at hM2 ⊢
          have hM := hM2
          clear hM2
          obtain ⟨W0, rfl⟩ : ∃ W0 : World, W0 = W1 := ⟨_, rfl⟩
          try simp only [Act.put, List.getElem_toArray, List.getElem_cons_zero, List.getElem_cons_succ, List.setIfInBounds_toArray, List.set_cons_zero, List.set_cons_succ]
          refine wpAnyH_take (i := 7) (oi := _) (v := ?_) rfl (by kernel_rfl) (by kernel_rfl) (by kernel_rfl) (fun _ _ _ h => h) (Or.inl ⟨by rfl, ?_⟩) hS ?_
          rotate_left
          · (intro w hSw; (try dsimp only at hSw); go_simp; (try with_reducible rfl))
          rotate_left
          simp only [Act.put, List.getElem_toArray, List.getElem_cons_zero, List.getElem_cons_succ, List.setIfInBounds_toArray, List.set_cons_zero, List.set_cons_succ]
          refine wpAnyH_take (i := 8) (oi := _) (v := ?_) rfl (by kernel_rfl) (by kernel_rfl) (by kernel_rfl) (fun _ _ _ h => h) (Or.inl ⟨by rfl, ?_⟩) hS ?_
          rotate_left
          · (intro w hSw; (try dsimp only at hSw); go_simp; (try with_reducible rfl))
          rotate_left
          simp only [Act.put, List.getElem_toArray, List.getElem_cons_zero, List.getElem_cons_succ, List.setIfInBounds_toArray, List.set_cons_zero, List.set_cons_succ]
          refine wpAnyH_done (by kernel_rfl) ?_ _
          go_wp2_with fail
          go_meet
          exact ⟨rfl, ⟨2, 0, 1, ⟨by decide, by decide, by decide, by decide⟩, hM.m⟩, hM.a, hM.t⟩
      · rw [if_pos (by rfl)]
        have hput := run_put W0 (w.heap.size + 1) w.heap.size 1 1 #[ent w.heap.size 2 0] (.int .i64 5) hM.m (by simp [ent])
        go_simp
        refine hK.out _ _ trivial (fun hS => ?_)
        clear hput hK K
        have hM2 := hM.put #[ent w.heap.size 2 0, ent w.heap.size 1 1] 2
        have hM2 : MS w (ChangeMaps.setBlock W0 (w.heap.size + 1) (.map #[ent w.heap.size 2 0, { key := .pointer (some ⟨w.heap.size, 1, none⟩), val := .int .i64 5, born := 1 }] 2)) #[ent w.heap.size 2 0, ent w.heap.size 1 1] 2 := hM2
        clear hM
        generalize ChangeMaps.setBlock W0 (w.heap.size + 1) (.map #[ent w.heap.size 2 0, { key := .pointer (some ⟨w.heap.size, 1, none⟩), val := .int .i64 5, born := 1 }] 2) = W1 at hM2 ⊢
        have hM := hM2
        clear hM2
        obtain ⟨W0, rfl⟩ : ∃ W0 : World, W0 = W1 := ⟨_, rfl⟩
        try simp only [Act.put, List.getElem_toArray, List.getElem_cons_zero, List.getElem_cons_succ, List.setIfInBounds_toArray, List.set_cons_zero, List.set_cons_succ]
        refine wpAnyH_ready (rs := [2]) (by kernel_rfl) (by simp) ?_
        refine (AllReadyH.cons rfl (fun K hK => ?_) AllReadyH.nil)
        · rw [if_pos (by rfl)]
          have hput := run_put W0 (w.heap.size + 1) w.heap.size 0 2 #[ent w.heap.size 2 0, ent w.heap.size 1 1] (.int .i64 1) hM.m (by simp [ent])
          go_simp
          refine hK.out _ _ trivial (fun hS => ?_)
          clear hput hK K
          have hM2 := hM.put #[ent w.heap.size 2 0, ent w.heap.size 1 1, ent w.heap.size 0 2] 3
          have hM2 : MS w (ChangeMaps.setBlock W0 (w.heap.size + 1) (.map #[ent w.heap.size 2 0, ent w.heap.size 1 1, { key := .pointer (some ⟨w.heap.size, 0, none⟩), val := .int .i64 1, born := 2 }] 3)) #[ent w.heap.size 2 0, ent w.heap.size 1 1, ent w.heap.size 0 2] 3 := hM2
          clear hM
          generalize ChangeMaps.setBlock W0 (w.heap.size + 1) (.map #[ent w.heap.size 2 0, ent w.heap.size 1 1, { key := .pointer (some ⟨w.heap.size, 0, none⟩), val := .int .i64 1, born := 2 }] 3) = W1 at hM2 ⊢
          have hM := hM2
          clear hM2
          obtain ⟨W0, rfl⟩ : ∃ W0 : World, W0 = W1 := ⟨_, rfl⟩
          try simp only [Act.put, List.getElem_toArray, List.getElem_cons_zero, List.getElem_cons_succ, List.setIfInBounds_toArray, List.set_cons_zero, List.set_cons_succ]
          refine wpAnyH_take (i := 7) (oi := _) (v := ?_) rfl (by kernel_rfl) (by kernel_rfl) (by kernel_rfl) (fun _ _ _ h => h) (Or.inl ⟨by rfl, ?_⟩) hS ?_
          rotate_left
          · (intro w hSw; (try dsimp only at hSw); go_simp; (try with_reducible rfl))
          rotate_left
          simp only [Act.put, List.getElem_toArray, List.getElem_cons_zero, List.getElem_cons_succ, List.setIfInBounds_toArray, List.set_cons_zero, List.set_cons_succ]
          refine wpAnyH_take (i := 8) (oi := _) (v := ?_) rfl (by kernel_rfl) (by kernel_rfl) (by kernel_rfl) (fun _ _ _ h => h) (Or.inl ⟨by rfl, ?_⟩) hS ?_
          rotate_left
          · (intro w hSw; (try dsimp only at hSw); go_simp; (try with_reducible rfl))
          rotate_left
          simp only [Act.put, List.getElem_toArray, List.getElem_cons_zero, List.getElem_cons_succ, List.setIfInBounds_toArray, List.set_cons_zero, List.set_cons_succ]
          refine wpAnyH_done (by kernel_rfl) ?_ _
          go_wp2_with fail
          go_meet
          exact ⟨rfl, ⟨2, 1, 0, ⟨by decide, by decide, by decide, by decide⟩, hM.m⟩, hM.a, hM.t⟩
  case rest =>
    obtain ⟨rfl, hmap, hA, ht⟩ := hcut
    go_wp2_with (first
      | (at_range; refine wpList_range_three _ rfl (.tmp 16) _ rfl _ _ Try.underlying55 (w.heap.size + 1) w.heap.size rfl hmap ?_; intro w0 hrr0 b0 hs0))
    go_frame
    have hA0 := hA.next b0
    have t0 := Ext.trans ht b0
    obtain ⟨r, hr⟩ : ∃ r, r = wc.heap.size := ⟨_, rfl⟩
    have hlr : w.heap.size < r := by rw [hr]; exact hA.lt
    rw [← hr] at hrr0 ⊢
    clear hr
    go_loopw [5, 6, 7, 8] (fun _ _ _ _ wr => ∃ L : Nat → Bool, RR wr (w.heap.size + 1) r w.heap.size L ∧ BoxOf wr w.heap.size #[.int .u32 (fv (L 0) id), .int .u32 (fv (L 1) age), .int .u32 (fv (L 2) sq), .int .i64 0] 24 ∧ Below w.heap.size w wr) (fun _ _ _ _ wr => wr.rangeLeft (w.heap.size + 1) r)
    case atStart => exact ⟨fun _ => true, hrr0, hA0, t0⟩
    case round =>
      obtain ⟨L, hrr, hA1, t1⟩ := hrel
      clear hmap hA ht hrr0 b0 hA0 t0
      have HL := Lib.hid hrr.left
      go_wp2_with (first | (at_next; refine wpList_next_three _ rfl (.tmp 17) rfl (w.heap.size + 1) r w.heap.size _ rfl hrr ?_ ?_; (intro hd); rotate_left; (intro f w1 hf hfL hrr1 hg1 hs1 hen); rotate_left))
      · have R1 := hb.below t1
        have hq : BoxOf wr w.heap.size #[.int .u32 (id : Int), .int .u32 (age : Int), .int .u32 (sq : Int), .int .i64 0] 24 := by have := hA1; rw [hd 0 (by decide), hd 1 (by decide), hd 2 (by decide)] at this; exact this
        clear hA1 hrr HL hd
        refine (HT4.out _ R1).mono ?_
        rintro e w2 ⟨rfl, b2⟩
        have hA2 := hq.next b2
        have t2 := Ext.trans t1 b2
        have x2 := hA2.cell
        have f2 := hA2.free
        clear t1 hq b2 R1
        go_wp2_with fail
        have t3 : Below w.heap.size w (w2.setCell ⟨w.heap.size, 3, none⟩ (.int .i64 (tl : Int))) := Below.setCell (p := ⟨w.heap.size, 3, none⟩) t2 (Nat.le_refl _) _
        have hA3 : BoxOf (w2.setCell ⟨w.heap.size, 3, none⟩ (.int .i64 (tl : Int))) w.heap.size #[.int .u32 (id : Int), .int .u32 (age : Int), .int .u32 (sq : Int), .int .i64 tl] 24 := hA2.setCell 3 (.int .i64 (tl : Int))
        generalize w2.setCell ⟨w.heap.size, 3, none⟩ (.int .i64 (tl : Int)) = w3 at t3 hA3 ⊢
        clear t2 hA2 x2 f2
        refine (HW.out _).mono ?_
        rintro e w4 ⟨P, k, c, rfl, hp, b4⟩
        have t4 := Ext.trans t3 b4
        have B := Lib.hid (hA3.next b4)
        have s1 := run_string_bs (P := Try.prog) c 26 9 5 Try.underlying26 Try.underlying5 Try.underlying9 hp
        have s2 := run_string_bs (P := Try.prog) q 26 9 5 Try.underlying26 Try.underlying5 Try.underlying9 (hb.below t4)
        have x4 := B.out.cell
        clear t3 hA3 b4 hp
        rcases HR.out with ⟨hE, rfl, rfl⟩ | ⟨rfl, hne, rfl, rfl⟩ | ⟨rfl, rfl, rfl, rfl⟩
        · go_wp2_with (refine wpList_store_rowTo rfl 24 (.tmp 2) (.tmp 57) rfl rfl w.heap.size #[.int .u32 0, .int .u32 0, .int .u32 0, .int .i64 0] rfl rfl 24 #[.int .u32 (id : Int), .int .u32 (age : Int), .int .u32 (sq : Int), .int .i64 tl] B.out (by kernel_rfl) rfl (by kernel_rfl) ?_)
          exact bodyPost_ret (v := .tuple #[.agg #[.int .u32 0, .int .u32 0, .int .u32 0, .int .i64 0], .int .i64 90]) (Eq.trans (results_row2 (P := Try.prog) (fn := Try.f13) (p := 2) (u := 3) (ty := 24) rfl _ _ w.heap.size 24 #[.int .u32 0, .int .u32 0, .int .u32 0, .int .i64 0] (0, 0) _ rfl (B.out.set _) Try.underlying24 rfl (by kernel_rfl)) rfl) rfl ⟨rfl, Ext.setRow t4 (Nat.le_refl _) _⟩
        · have hs : (!ws == bs) = true := by simpa using hne
          go_wp2_with (refine wpList_store_rowTo rfl 24 (.tmp 2) (.tmp 57) rfl rfl w.heap.size #[.int .u32 0, .int .u32 0, .int .u32 0, .int .i64 0] rfl rfl 24 #[.int .u32 (id : Int), .int .u32 (age : Int), .int .u32 (sq : Int), .int .i64 tl] B.out (by kernel_rfl) rfl (by kernel_rfl) ?_)
          exact bodyPost_ret (v := .tuple #[.agg #[.int .u32 0, .int .u32 0, .int .u32 0, .int .i64 0], .int .i64 90]) (Eq.trans (results_row2 (P := Try.prog) (fn := Try.f13) (p := 2) (u := 3) (ty := 24) rfl _ _ w.heap.size 24 #[.int .u32 0, .int .u32 0, .int .u32 0, .int .i64 0] (0, 0) _ rfl (B.out.set _) Try.underlying24 rfl (by kernel_rfl)) rfl) rfl ⟨rfl, Ext.setRow t4 (Nat.le_refl _) _⟩
        · go_wp2_with (refine wpList_store_rowTo rfl 24 (.tmp 2) (.tmp 58) rfl rfl w.heap.size #[.int .u32 (id : Int), .int .u32 (age : Int), .int .u32 (sq : Int), .int .i64 tl] rfl rfl 24 #[.int .u32 (id : Int), .int .u32 (age : Int), .int .u32 (sq : Int), .int .i64 tl] B.out (by kernel_rfl) rfl (by kernel_rfl) ?_)
          exact bodyPost_ret (v := .tuple #[.agg #[.int .u32 (id : Int), .int .u32 (age : Int), .int .u32 (sq : Int), .int .i64 tl], .int .i64 0]) (Eq.trans (results_row2 (P := Try.prog) (fn := Try.f13) (p := 2) (u := 3) (ty := 24) rfl _ _ w.heap.size 24 #[.int .u32 (id : Int), .int .u32 (age : Int), .int .u32 (sq : Int), .int .i64 tl] (0, 0) _ rfl (B.out.set _) Try.underlying24 rfl (by kernel_rfl)) rfl) rfl ⟨rfl, Ext.setRow t4 (Nat.le_refl _) _⟩
      have t2 := Below.grown t1 hg1 t1.size (fun k hk => by cases hk; omega)
      have hA2 := BoxOf.grown hA1 hg1 (by simp; omega)
      have R2 := hb.below t2
      clear hrr hg1 hs1 t1 hA1
      have hff : f = 0 ∨ f = 1 ∨ f = 2 := by omega
      rcases hff with rfl | rfl | rfl
      · have w1' := W1.out
        go_wp2_with fail
        refine (HT1.out _ R2).mono ?_
        rintro e w2 ⟨rfl, b2⟩
        have hA3 := hA2.next b2
        have t3 := Ext.trans t2 b2
        have hR3 := hrr1.next' b2
        have x3 := hA3.cell
        have f3 := hA3.free
        clear t2 hA2 b2 hen hrr1
        go_wp2_with fail
        go_roundw
        case rel => exact ⟨fun z => L z && z != 0, hR3.cell (by omega) (by omega) _ _, by have := hA3.setCell 0 (.int .u32 (id : Int)); simpa [fv, hfL] using this, Below.setCell (p := ⟨w.heap.size, 0, none⟩) t3 (Nat.le_refl _) _⟩
        case measure => rw [(hR3.cell (by omega) (by omega) _ _).left, HL.out]; exact leftN_less (by decide) hfL
      · have w2' := W2.out
        go_wp2_with fail
        refine (HT2.out _ R2).mono ?_
        rintro e w2 ⟨rfl, b2⟩
        have hA3 := hA2.next b2
        have t3 := Ext.trans t2 b2
        have hR3 := hrr1.next' b2
        have x3 := hA3.cell
        have f3 := hA3.free
        clear t2 hA2 b2 hen hrr1
        go_wp2_with fail
        go_roundw
        case rel => exact ⟨fun z => L z && z != 1, hR3.cell (by omega) (by omega) _ _, by have := hA3.setCell 1 (.int .u32 (age : Int)); simpa [fv, hfL] using this, Below.setCell (p := ⟨w.heap.size, 1, none⟩) t3 (Nat.le_refl _) _⟩
        case measure => rw [(hR3.cell (by omega) (by omega) _ _).left, HL.out]; exact leftN_less (by decide) hfL
      · have w3' := W3.out
        go_wp2_with fail
        refine (HT3.out _ R2).mono ?_
        rintro e w2 ⟨rfl, b2⟩
        have hA3 := hA2.next b2
        have t3 := Ext.trans t2 b2
        have hR3 := hrr1.next' b2
        have x3 := hA3.cell
        have f3 := hA3.free
        clear t2 hA2 b2 hen hrr1
        go_wp2_with fail
        go_roundw
        case rel => exact ⟨fun z => L z && z != 2, hR3.cell (by omega) (by omega) _ _, by have := hA3.setCell 2 (.int .u32 (sq : Int)); simpa [fv, hfL] using this, Below.setCell (p := ⟨w.heap.size, 2, none⟩) t3 (Nat.le_refl _) _⟩
        case measure => rw [(hR3.cell (by omega) (by omega) _ _).left, HL.out]; exact leftN_less (by decide) hfL
end Go.Proofs.Ytgmlhfencidahaa
