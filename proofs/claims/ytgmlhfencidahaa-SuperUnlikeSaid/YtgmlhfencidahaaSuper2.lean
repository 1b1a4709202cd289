/- Layer 10 (super): the block with its sum; Write. -/
import Derived.Test.YtgmlhfencidahaaSuper
namespace Go.Proofs.Ytgmlhfencidahaa
open Go.RowKit
set_option linter.unusedSimpArgs false
set_option linter.unusedVariables false

theorem Bs.first {w : World} {A : Option Addr} {n : Nat} {bs : List UInt8} (h : Bs w A n bs) (k : Nat) (hk : k ≤ n) : Bs w A k (bs.take k) := by
  refine ⟨by rw [List.length_take, h.1]; omega, ?_⟩
  rcases h.2 with h2 | ⟨b, off, hA, hc⟩
  · left
    have : bs = [] := by simpa using h2
    subst this
    simp
  · refine .inr ⟨b, off, hA, fun j hj => ?_⟩
    have hj' : j < k ∧ j < bs.length := Nat.lt_min.1 (by simpa using hj)
    rw [hc j (by simpa using hj'.2)]
    simp [List.getElem?_take, hj'.1]

set_option maxRecDepth 100000 in
set_option maxHeartbeats 1000000 in
theorem sealed_ok (g p : Nat) (L : List UInt8) (w : World) (hB : Box w g L) :
    Calls Try.prog 20 #[.agg #[.slice (some ⟨g, 0, none⟩) 128 128, .int .i64 (p : Int), .int .i64 0]] w fun e w' => ∃ g', e = .returned (.tuple #[.slice (some ⟨g', 0, none⟩) 128 128, .int .i64 0]) ∧ w.heap.size ≤ g' ∧ Box w' g' (sealL L) ∧ Below w.heap.size w w' := by
  have hL := hB.2
  have hsum : (Crc.sum (L.take 124)) < 256 ^ 4 := Crc.sum_lt _
  have HSUM := Lib.hid hsum
  have hsum0 : IntKind.i64.wrap ((Crc.sum (L.take 124) : Nat) : Int) = ((Crc.sum (L.take 124) : Nat) : Int) := IntWalk.i64_in _ (by have := Crc.sum_lt (L.take 124); omega)
  have HSUM0 := Lib.hid hsum0
  clear hsum0
  have HB0 := Lib.hid hB
  clear hB hsum
  go_enter Try.func20, Try.ntmps20
  go_wp2_with fail
  have A0 := BoxOf.new w #[.slice (some ⟨g, 0, none⟩) 128 128, .int .i64 124, .int .i64 0] 50
  have t0 := Ext.alloc (Below.refl w.heap.size w) (.cells #[.slice (some ⟨g, 0, none⟩) 128 128, .int .i64 124, .int .i64 0] 50)
  have hlt := HB0.out.lt
  have D0 := Lib.hid (HB0.out.below (Ext.alloc (Below.refl w.heap.size w) (.cells #[.slice (some ⟨g, 0, none⟩) 128 128, .int .i64 124, .int .i64 0] 50)) hlt)
  generalize w.alloc (.cells #[.slice (some ⟨g, 0, none⟩) 128 128, .int .i64 124, .int .i64 0] 50) = w0 at A0 t0 D0 ⊢
  have xw : ∀ o, w0.drew.cell? ⟨w.heap.size, o, none⟩ = _ := A0.drew.cell
  refine wp_region_held_drew (S := fun w' => Below w.heap.size w w' ∧ (∃ cs : Array Value, cs.size = 3 ∧ BoxOf w' w.heap.size cs 50) ∧ (Box w' g L)) (by kernel_rfl) ⟨Ext.drew t0, ⟨_, rfl, A0.drew⟩, D0.out⟩ (fun hS => ?_)
  clear t0 A0 D0
  refine wpAnyH_take (i := 1) (oi := _) (v := ?_) rfl (by kernel_rfl) (by kernel_rfl) (by kernel_rfl) (fun _ _ _ h => h) (Or.inl ⟨by rfl, ?_⟩) hS ?_
  rotate_left
  · (intro w hSw; (try dsimp only at hSw); go_simp; (try with_reducible rfl))
  rotate_left
  simp only [Act.put, List.getElem_toArray, List.getElem_cons_zero, List.getElem_cons_succ, List.setIfInBounds_toArray, List.set_cons_zero, List.set_cons_succ]
  refine wpAnyH_ready (rs := [0, 2]) (by kernel_rfl) (by simp) ?_
  refine AllReadyH.cons rfl (fun K hK => ?_) (AllReadyH.cons rfl (fun K hK => ?_) AllReadyH.nil)
  · rw [if_pos (by rfl)]
    go_simp
    refine hK.out _ _ ⟨hS.1, hS.2.1, hS.2.2⟩ (fun hS' => ?_)
    clear hK K hS
    have hS := hS'
    clear hS'
    try simp only [Act.put, List.getElem_toArray, List.getElem_cons_zero, List.getElem_cons_succ, List.setIfInBounds_toArray, List.set_cons_zero, List.set_cons_succ]
    refine wpAnyH_ready (rs := [2]) (by kernel_rfl) (by simp) ?_
    refine AllReadyH.cons rfl (fun K hK => ?_) AllReadyH.nil
    rw [if_pos (by rfl)]
    go_simp
    refine hK.out _ _ ⟨hS.1, hS.2.1, hS.2.2⟩ (fun hS' => ?_)
    clear hK K hS
    have hS := hS'
    clear hS'
    try simp only [Act.put, List.getElem_toArray, List.getElem_cons_zero, List.getElem_cons_succ, List.setIfInBounds_toArray, List.set_cons_zero, List.set_cons_succ]
    refine wpAnyH_take (i := 3) (oi := _) (v := ?_) rfl (by kernel_rfl) (by kernel_rfl) (by kernel_rfl) (fun _ _ _ h => h) (Or.inl ⟨by rfl, ?_⟩) hS ?_
    rotate_left
    · (intro w hSw; (try dsimp only at hSw); go_simp; (try with_reducible rfl))
    rotate_left
    simp only [Act.put, List.getElem_toArray, List.getElem_cons_zero, List.getElem_cons_succ, List.setIfInBounds_toArray, List.set_cons_zero, List.set_cons_succ]
    refine wpAnyH_ready (rs := [4]) (by kernel_rfl) (by simp) ?_
    refine AllReadyH.cons rfl (fun K hK => ?_) AllReadyH.nil
    rw [if_pos (by rfl)]
    go_simp
    refine (sum_any _ _ _ (L.take 124) _ (hS.2.2.bs.first 124 (by omega)) (by omega)).mono ?_
    rintro e w4 ⟨rfl, b4⟩
    obtain ⟨cs, hcs, Q4⟩ := hS.2.1
    refine hK.out _ _ ⟨Ext.trans hS.1 b4, ⟨cs, hcs, Q4.next b4⟩, hS.2.2.below b4 hS.2.2.lt⟩ (fun hS' => ?_)
    have xw4 : ∀ o, w4.cell? ⟨w.heap.size, o, none⟩ = _ := fun o => (b4.cell (p := ⟨w.heap.size, o, none⟩) Q4.lt).trans (xw o)
    have xw := xw4
    clear xw4 hK K hS b4 Q4
    have hS := hS'
    clear hS'
    try simp only [Act.put, List.getElem_toArray, List.getElem_cons_zero, List.getElem_cons_succ, List.setIfInBounds_toArray, List.set_cons_zero, List.set_cons_succ]
    have hq0 := HSUM0.out
    refine wpAnyH_take (i := 5) (oi := _) (v := ?_) rfl (by kernel_rfl) (by kernel_rfl) (by kernel_rfl) (fun _ _ _ h => h) (Or.inl ⟨by rfl, ?_⟩) hS ?_
    rotate_left
    · (intro w hSw; (try dsimp only at hSw); go_simp; (try with_reducible rfl))
    rotate_left
    simp only [Act.put, List.getElem_toArray, List.getElem_cons_zero, List.getElem_cons_succ, List.setIfInBounds_toArray, List.set_cons_zero, List.set_cons_succ]
    refine wpAnyH_ready (rs := [6]) (by kernel_rfl) (by simp) ?_
    refine AllReadyH.cons rfl (fun K hK => ?_) AllReadyH.nil
    rw [if_pos (by rfl)]
    have hsum0 := HSUM0.out
    go_simp
    clear hsum0
    refine (cput_ok (some ⟨g, 0, none⟩) 128 128 L (.inr rfl) 124 4 (Crc.sum (L.take 124)) (by omega) (by omega) HSUM.out _ hS.2.2.bs).mono ?_
    rintro e w5 ⟨g', rfl, hg', HB0', b5⟩
    have HB' : Box w5 g' (sealL L) := by rw [wholeL_full hL] at HB0'; exact HB0'
    clear HB0'
    obtain ⟨cs, hcs, Q5⟩ := hS.2.1
    refine hK.out _ _ ⟨Ext.trans hS.1 b5, ⟨cs, hcs, Q5.next b5⟩, hS.2.2.below b5 hS.2.2.lt⟩ (fun hS' => ?_)
    have Q6 := Q5.next b5
    have hgg : w.heap.size < g' := Nat.lt_of_lt_of_le Q5.lt hg'
    clear hK K hS b5 Q5 xw
    have hS := hS'
    clear hS'
    have t6 := hS.1
    try simp only [Act.put, List.getElem_toArray, List.getElem_cons_zero, List.getElem_cons_succ, List.setIfInBounds_toArray, List.set_cons_zero, List.set_cons_succ]
    refine wpAnyH_ready (rs := [7]) (by kernel_rfl) (by simp) ?_
    refine AllReadyH.cons rfl (fun K hK => ?_) AllReadyH.nil
    rw [if_pos (by rfl)]
    refine wp_store_row 50 (.tmp 1) (.tmp 16) rfl w.heap.size #[.slice (some ⟨g', 0, none⟩) 128 128, .int .i64 ((124 + 4 : Nat) : Int), .int .i64 0] rfl rfl 50 cs Q6 (by kernel_rfl) hcs (by kernel_rfl) ?_
    have Q7 := Q6.set #[.slice (some ⟨g', 0, none⟩) 128 128, .int .i64 ((124 + 4 : Nat) : Int), .int .i64 0]
    have hB7 : Box (w5.setRow w.heap.size #[.slice (some ⟨g', 0, none⟩) 128 128, .int .i64 ((124 + 4 : Nat) : Int), .int .i64 0]) g' (sealL L) := ⟨BoxOf.other (w := w5) (g := g') (cs := rowV (sealL L)) HB'.1 (by omega) _, HB'.2⟩
    have hB8 := Box.lt HB'
    have t7 := Ext.setRow t6 (Nat.le_refl _) #[.slice (some ⟨g', 0, none⟩) 128 128, .int .i64 ((124 + 4 : Nat) : Int), .int .i64 0]
    refine hK.out _ _ ⟨t7, ⟨_, rfl, Q7⟩, ⟨BoxOf.other (w := w5) (g := g) (cs := rowV L) hS.2.2.1 (by omega) _, hS.2.2.2⟩⟩ (fun hS' => ?_)
    clear hK K hS hS'
    try simp only [Act.put, List.getElem_toArray, List.getElem_cons_zero, List.getElem_cons_succ, List.setIfInBounds_toArray, List.set_cons_zero, List.set_cons_succ]
    refine wpAnyH_done (by kernel_rfl) ?_ _
    generalize w5.setRow w.heap.size #[.slice (some ⟨g', 0, none⟩) 128 128, .int .i64 ((124 + 4 : Nat) : Int), .int .i64 0] = w6 at Q7 hB7 t7 ⊢
    clear HB' hB8 Q6 t6
    have x7 := Q7.cell
    go_wp2_with fail
    go_quiet (fail)
    have t8 := below_drewN' t7 nq
    have hB9 : Box (w6.drewN nq) g' (sealL L) := ⟨hB7.1, hB7.2⟩
    clear x7 t7
    go_wp2
    go_ret2
    exact ⟨g', rfl, by omega, hB9, t8⟩
  · rw [if_pos (by rfl)]
    go_simp
    refine hK.out _ _ ⟨hS.1, hS.2.1, hS.2.2⟩ (fun hS' => ?_)
    clear hK K hS
    have hS := hS'
    clear hS'
    try simp only [Act.put, List.getElem_toArray, List.getElem_cons_zero, List.getElem_cons_succ, List.setIfInBounds_toArray, List.set_cons_zero, List.set_cons_succ]
    refine wpAnyH_take (i := 3) (oi := _) (v := ?_) rfl (by kernel_rfl) (by kernel_rfl) (by kernel_rfl) (fun _ _ _ h => h) (Or.inl ⟨by rfl, ?_⟩) hS ?_
    rotate_left
    · (intro w hSw; (try dsimp only at hSw); go_simp; (try with_reducible rfl))
    rotate_left
    simp only [Act.put, List.getElem_toArray, List.getElem_cons_zero, List.getElem_cons_succ, List.setIfInBounds_toArray, List.set_cons_zero, List.set_cons_succ]
    refine wpAnyH_ready (rs := [0, 4]) (by kernel_rfl) (by simp) ?_
    refine AllReadyH.cons rfl (fun K hK => ?_) (AllReadyH.cons rfl (fun K hK => ?_) AllReadyH.nil)
    · rw [if_pos (by rfl)]
      go_simp
      refine hK.out _ _ ⟨hS.1, hS.2.1, hS.2.2⟩ (fun hS' => ?_)
      clear hK K hS
      have hS := hS'
      clear hS'
      try simp only [Act.put, List.getElem_toArray, List.getElem_cons_zero, List.getElem_cons_succ, List.setIfInBounds_toArray, List.set_cons_zero, List.set_cons_succ]
      refine wpAnyH_ready (rs := [4]) (by kernel_rfl) (by simp) ?_
      refine AllReadyH.cons rfl (fun K hK => ?_) AllReadyH.nil
      rw [if_pos (by rfl)]
      go_simp
      refine (sum_any _ _ _ (L.take 124) _ (hS.2.2.bs.first 124 (by omega)) (by omega)).mono ?_
      rintro e w4 ⟨rfl, b4⟩
      obtain ⟨cs, hcs, Q4⟩ := hS.2.1
      refine hK.out _ _ ⟨Ext.trans hS.1 b4, ⟨cs, hcs, Q4.next b4⟩, hS.2.2.below b4 hS.2.2.lt⟩ (fun hS' => ?_)
      have xw4 : ∀ o, w4.cell? ⟨w.heap.size, o, none⟩ = _ := fun o => (b4.cell (p := ⟨w.heap.size, o, none⟩) Q4.lt).trans (xw o)
      have xw := xw4
      clear xw4 hK K hS b4 Q4
      have hS := hS'
      clear hS'
      try simp only [Act.put, List.getElem_toArray, List.getElem_cons_zero, List.getElem_cons_succ, List.setIfInBounds_toArray, List.set_cons_zero, List.set_cons_succ]
      have hq0 := HSUM0.out
      refine wpAnyH_take (i := 5) (oi := _) (v := ?_) rfl (by kernel_rfl) (by kernel_rfl) (by kernel_rfl) (fun _ _ _ h => h) (Or.inl ⟨by rfl, ?_⟩) hS ?_
      rotate_left
      · (intro w hSw; (try dsimp only at hSw); go_simp; (try with_reducible rfl))
      rotate_left
      simp only [Act.put, List.getElem_toArray, List.getElem_cons_zero, List.getElem_cons_succ, List.setIfInBounds_toArray, List.set_cons_zero, List.set_cons_succ]
      refine wpAnyH_ready (rs := [6]) (by kernel_rfl) (by simp) ?_
      refine AllReadyH.cons rfl (fun K hK => ?_) AllReadyH.nil
      rw [if_pos (by rfl)]
      have hsum0 := HSUM0.out
      go_simp
      clear hsum0
      refine (cput_ok (some ⟨g, 0, none⟩) 128 128 L (.inr rfl) 124 4 (Crc.sum (L.take 124)) (by omega) (by omega) HSUM.out _ hS.2.2.bs).mono ?_
      rintro e w5 ⟨g', rfl, hg', HB0', b5⟩
      have HB' : Box w5 g' (sealL L) := by rw [wholeL_full hL] at HB0'; exact HB0'
      clear HB0'
      obtain ⟨cs, hcs, Q5⟩ := hS.2.1
      refine hK.out _ _ ⟨Ext.trans hS.1 b5, ⟨cs, hcs, Q5.next b5⟩, hS.2.2.below b5 hS.2.2.lt⟩ (fun hS' => ?_)
      have Q6 := Q5.next b5
      have hgg : w.heap.size < g' := Nat.lt_of_lt_of_le Q5.lt hg'
      clear hK K hS b5 Q5 xw
      have hS := hS'
      clear hS'
      have t6 := hS.1
      try simp only [Act.put, List.getElem_toArray, List.getElem_cons_zero, List.getElem_cons_succ, List.setIfInBounds_toArray, List.set_cons_zero, List.set_cons_succ]
      refine wpAnyH_ready (rs := [7]) (by kernel_rfl) (by simp) ?_
      refine AllReadyH.cons rfl (fun K hK => ?_) AllReadyH.nil
      rw [if_pos (by rfl)]
      refine wp_store_row 50 (.tmp 1) (.tmp 16) rfl w.heap.size #[.slice (some ⟨g', 0, none⟩) 128 128, .int .i64 ((124 + 4 : Nat) : Int), .int .i64 0] rfl rfl 50 cs Q6 (by kernel_rfl) hcs (by kernel_rfl) ?_
      have Q7 := Q6.set #[.slice (some ⟨g', 0, none⟩) 128 128, .int .i64 ((124 + 4 : Nat) : Int), .int .i64 0]
      have hB7 : Box (w5.setRow w.heap.size #[.slice (some ⟨g', 0, none⟩) 128 128, .int .i64 ((124 + 4 : Nat) : Int), .int .i64 0]) g' (sealL L) := ⟨BoxOf.other (w := w5) (g := g') (cs := rowV (sealL L)) HB'.1 (by omega) _, HB'.2⟩
      have hB8 := Box.lt HB'
      have t7 := Ext.setRow t6 (Nat.le_refl _) #[.slice (some ⟨g', 0, none⟩) 128 128, .int .i64 ((124 + 4 : Nat) : Int), .int .i64 0]
      refine hK.out _ _ ⟨t7, ⟨_, rfl, Q7⟩, ⟨BoxOf.other (w := w5) (g := g) (cs := rowV L) hS.2.2.1 (by omega) _, hS.2.2.2⟩⟩ (fun hS' => ?_)
      clear hK K hS hS'
      try simp only [Act.put, List.getElem_toArray, List.getElem_cons_zero, List.getElem_cons_succ, List.setIfInBounds_toArray, List.set_cons_zero, List.set_cons_succ]
      refine wpAnyH_done (by kernel_rfl) ?_ _
      generalize w5.setRow w.heap.size #[.slice (some ⟨g', 0, none⟩) 128 128, .int .i64 ((124 + 4 : Nat) : Int), .int .i64 0] = w6 at Q7 hB7 t7 ⊢
      clear HB' hB8 Q6 t6
      have x7 := Q7.cell
      go_wp2_with fail
      go_quiet (fail)
      have t8 := below_drewN' t7 nq
      have hB9 : Box (w6.drewN nq) g' (sealL L) := ⟨hB7.1, hB7.2⟩
      clear x7 t7
      go_wp2
      go_ret2
      exact ⟨g', rfl, by omega, hB9, t8⟩
    · rw [if_pos (by rfl)]
      go_simp
      refine (sum_any _ _ _ (L.take 124) _ (hS.2.2.bs.first 124 (by omega)) (by omega)).mono ?_
      rintro e w4 ⟨rfl, b4⟩
      obtain ⟨cs, hcs, Q4⟩ := hS.2.1
      refine hK.out _ _ ⟨Ext.trans hS.1 b4, ⟨cs, hcs, Q4.next b4⟩, hS.2.2.below b4 hS.2.2.lt⟩ (fun hS' => ?_)
      have xw4 : ∀ o, w4.cell? ⟨w.heap.size, o, none⟩ = _ := fun o => (b4.cell (p := ⟨w.heap.size, o, none⟩) Q4.lt).trans (xw o)
      have xw := xw4
      clear xw4 hK K hS b4 Q4
      have hS := hS'
      clear hS'
      try simp only [Act.put, List.getElem_toArray, List.getElem_cons_zero, List.getElem_cons_succ, List.setIfInBounds_toArray, List.set_cons_zero, List.set_cons_succ]
      have hq0 := HSUM0.out
      refine wpAnyH_take (i := 5) (oi := _) (v := ?_) rfl (by kernel_rfl) (by kernel_rfl) (by kernel_rfl) (fun _ _ _ h => h) (Or.inl ⟨by rfl, ?_⟩) hS ?_
      rotate_left
      · (intro w hSw; (try dsimp only at hSw); go_simp; (try with_reducible rfl))
      rotate_left
      simp only [Act.put, List.getElem_toArray, List.getElem_cons_zero, List.getElem_cons_succ, List.setIfInBounds_toArray, List.set_cons_zero, List.set_cons_succ]
      refine wpAnyH_ready (rs := [0]) (by kernel_rfl) (by simp) ?_
      refine AllReadyH.cons rfl (fun K hK => ?_) AllReadyH.nil
      rw [if_pos (by rfl)]
      go_simp
      refine hK.out _ _ ⟨hS.1, hS.2.1, hS.2.2⟩ (fun hS' => ?_)
      clear hK K hS
      have hS := hS'
      clear hS'
      try simp only [Act.put, List.getElem_toArray, List.getElem_cons_zero, List.getElem_cons_succ, List.setIfInBounds_toArray, List.set_cons_zero, List.set_cons_succ]
      refine wpAnyH_ready (rs := [6]) (by kernel_rfl) (by simp) ?_
      refine AllReadyH.cons rfl (fun K hK => ?_) AllReadyH.nil
      rw [if_pos (by rfl)]
      have hsum0 := HSUM0.out
      go_simp
      clear hsum0
      refine (cput_ok (some ⟨g, 0, none⟩) 128 128 L (.inr rfl) 124 4 (Crc.sum (L.take 124)) (by omega) (by omega) HSUM.out _ hS.2.2.bs).mono ?_
      rintro e w5 ⟨g', rfl, hg', HB0', b5⟩
      have HB' : Box w5 g' (sealL L) := by rw [wholeL_full hL] at HB0'; exact HB0'
      clear HB0'
      obtain ⟨cs, hcs, Q5⟩ := hS.2.1
      refine hK.out _ _ ⟨Ext.trans hS.1 b5, ⟨cs, hcs, Q5.next b5⟩, hS.2.2.below b5 hS.2.2.lt⟩ (fun hS' => ?_)
      have Q6 := Q5.next b5
      have hgg : w.heap.size < g' := Nat.lt_of_lt_of_le Q5.lt hg'
      clear hK K hS b5 Q5 xw
      have hS := hS'
      clear hS'
      have t6 := hS.1
      try simp only [Act.put, List.getElem_toArray, List.getElem_cons_zero, List.getElem_cons_succ, List.setIfInBounds_toArray, List.set_cons_zero, List.set_cons_succ]
      refine wpAnyH_ready (rs := [7]) (by kernel_rfl) (by simp) ?_
      refine AllReadyH.cons rfl (fun K hK => ?_) AllReadyH.nil
      rw [if_pos (by rfl)]
      refine wp_store_row 50 (.tmp 1) (.tmp 16) rfl w.heap.size #[.slice (some ⟨g', 0, none⟩) 128 128, .int .i64 ((124 + 4 : Nat) : Int), .int .i64 0] rfl rfl 50 cs Q6 (by kernel_rfl) hcs (by kernel_rfl) ?_
      have Q7 := Q6.set #[.slice (some ⟨g', 0, none⟩) 128 128, .int .i64 ((124 + 4 : Nat) : Int), .int .i64 0]
      have hB7 : Box (w5.setRow w.heap.size #[.slice (some ⟨g', 0, none⟩) 128 128, .int .i64 ((124 + 4 : Nat) : Int), .int .i64 0]) g' (sealL L) := ⟨BoxOf.other (w := w5) (g := g') (cs := rowV (sealL L)) HB'.1 (by omega) _, HB'.2⟩
      have hB8 := Box.lt HB'
      have t7 := Ext.setRow t6 (Nat.le_refl _) #[.slice (some ⟨g', 0, none⟩) 128 128, .int .i64 ((124 + 4 : Nat) : Int), .int .i64 0]
      refine hK.out _ _ ⟨t7, ⟨_, rfl, Q7⟩, ⟨BoxOf.other (w := w5) (g := g) (cs := rowV L) hS.2.2.1 (by omega) _, hS.2.2.2⟩⟩ (fun hS' => ?_)
      clear hK K hS hS'
      try simp only [Act.put, List.getElem_toArray, List.getElem_cons_zero, List.getElem_cons_succ, List.setIfInBounds_toArray, List.set_cons_zero, List.set_cons_succ]
      refine wpAnyH_done (by kernel_rfl) ?_ _
      generalize w5.setRow w.heap.size #[.slice (some ⟨g', 0, none⟩) 128 128, .int .i64 ((124 + 4 : Nat) : Int), .int .i64 0] = w6 at Q7 hB7 t7 ⊢
      clear HB' hB8 Q6 t6
      have x7 := Q7.cell
      go_wp2_with fail
      go_quiet (fail)
      have t8 := below_drewN' t7 nq
      have hB9 : Box (w6.drewN nq) g' (sealL L) := ⟨hB7.1, hB7.2⟩
      clear x7 t7
      go_wp2
      go_ret2
      exact ⟨g', rfl, by omega, hB9, t8⟩
end Go.Proofs.Ytgmlhfencidahaa
