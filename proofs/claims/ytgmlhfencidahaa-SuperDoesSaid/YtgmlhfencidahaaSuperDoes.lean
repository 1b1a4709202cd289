/- Layer 10 (super): as the document says: the statement. -/
import Derived.Test.YtgmlhfencidahaaSuperRef3
import Derived.Test.YtgmlhfencidahaaSuperLaws
namespace Go.Proofs.Ytgmlhfencidahaa
open Go Go.RowKit
set_option linter.unusedSimpArgs false
set_option linter.unusedVariables false

set_option maxRecDepth 100000 in
theorem does_long (id age sq : Nat) (t : Int) (A : Option Addr) (n q : Nat) (hn : 1000 < n) (w : World) : Calls Try.prog 5 #[.agg #[.int .u32 (id : Int), .int .u32 (age : Int), .int .u32 (sq : Int), .int .i64 t], .slice A n q] w fun e w' => e = .returned (.bool true) ∧ Below w.heap.size w w' := by
  have hi1 : decide (1000 < (n : Int)) = true := decide_eq_true (by omega)
  go_enter Try.func5, Try.ntmps5
  go_wp2
  go_ret
  exact ⟨rfl, Ext.alloc (Below.refl _ _) _⟩

set_option maxRecDepth 100000 in
set_option maxHeartbeats 2000000 in
theorem does_core (id age sq : Nat) (t : Int) (A : Option Addr) (n q : Nat) (bs : List UInt8) (hn : n ≤ 1000) (ws : List UInt8) (E : Int) (i1 i2 i3 i4 : Nat) (C : Int)
    (h1 : ∀ W, Calls Try.prog 10 #[.agg #[.int .u32 (id : Int), .int .u32 (age : Int), .int .u32 (sq : Int), .int .i64 t]] W fun e w' => ∃ P k c, e = .returned (.tuple #[.slice P k c, .int .i64 E]) ∧ Bs w' P k ws ∧ Below W.heap.size W w')
    (h2 : ∀ W, Calls Try.prog 14 #[.agg #[.int .u32 (id : Int), .int .u32 (age : Int), .int .u32 (sq : Int), .int .i64 t]] W fun e w' => ∃ P k c, e = .returned (.tuple #[.slice P k c, .int .i64 E]) ∧ Bs w' P k ws ∧ Below W.heap.size W w')
    (h3 : ∀ A q W, Bs W A n bs → Calls Try.prog 13 #[.slice A n q] W fun e w' => e = .returned (.tuple #[.agg #[.int .u32 (i1 : Int), .int .u32 (i2 : Int), .int .u32 (i3 : Int), .int .i64 (i4 : Int)], .int .i64 C]) ∧ Below W.heap.size W w')
    (h4 : ∀ A q W, Bs W A n bs → Calls Try.prog 15 #[.slice A n q] W fun e w' => e = .returned (.tuple #[.agg #[.int .u32 (i1 : Int), .int .u32 (i2 : Int), .int .u32 (i3 : Int), .int .i64 (i4 : Int)], .int .i64 C]) ∧ Below W.heap.size W w')
    (h5 : ∀ W, Calls Try.prog 11 #[.agg #[.int .u32 (id : Int), .int .u32 (age : Int), .int .u32 (sq : Int), .int .i64 t]] W fun e w' => e = .returned (.int .i64 E) ∧ Below W.heap.size W w')
    (h6 : ∀ W, Calls Try.prog 16 #[.agg #[.int .u32 (id : Int), .int .u32 (age : Int), .int .u32 (sq : Int), .int .i64 t]] W fun e w' => e = .returned (.int .i64 E) ∧ Below W.heap.size W w')
    (w : World) (hb : Bs w A n bs) : Calls Try.prog 5 #[.agg #[.int .u32 (id : Int), .int .u32 (age : Int), .int .u32 (sq : Int), .int .i64 t], .slice A n q] w fun e w' => e = .returned (.bool true) ∧ Below w.heap.size w w' := by
  have H1 := Lib.hid h1
  have H2 := Lib.hid h2
  have H3 := Lib.hid h3
  have H4 := Lib.hid h4
  have H5 := Lib.hid h5
  have H6 := Lib.hid h6
  clear h1 h2 h3 h4 h5 h6
  have hi1 : decide (1000 < (n : Int)) = false := decide_eq_false (by omega)
  have hi2 : decide (1000 < n) = false := decide_eq_false (by omega)
  go_enter Try.func5, Try.ntmps5
  have A0 := BoxOf.new w #[.int .u32 (id : Int), .int .u32 (age : Int), .int .u32 (sq : Int), .int .i64 t] 24
  have t0 := Ext.alloc (Below.refl w.heap.size w) (.cells #[.int .u32 (id : Int), .int .u32 (age : Int), .int .u32 (sq : Int), .int .i64 t] 24)
  have hb0 := Lib.hid (hb.alloc (.cells #[.int .u32 (id : Int), .int .u32 (age : Int), .int .u32 (sq : Int), .int .i64 t] 24))
  clear hb
  go_wp2_with (at_builtin; refine wpList_append_bytes rfl (.const (.slice none 0 0)) (.tmp 17) rfl (w.heap.size + 1) _ 0 [] rfl (OB.nil _ _) A n q bs rfl hb0.out (by omega) (by simp) ?_; intro v1 w1 own1 g1; have A1 := A0.below g1 (by omega); have t1 := t0.trans (g1.mono (by omega)); have x1 := A1.cell; have hb1 := Lib.hid (hb0.out.below (g1.mono (by simp))); rw [Nat.zero_add, List.nil_append] at own1; obtain ⟨P1, c1, rfl, hw1⟩ := own1.bs; clear A0 t0 own1 g1 hb0)
  refine (H1.out _).mono ?_
  rintro e w2 ⟨P, k, c, rfl, hp, b2⟩
  have A2 := A1.next b2
  have t2 := Ext.trans t1 b2
  have hb2 := hb1.out.below b2
  have hw2 := hw1.below b2
  have x2 := A2.cell
  clear A1 t1 hb1 hw1 b2 x1
  go_wp2_with fail
  refine (H2.out _).mono ?_
  rintro e w3 ⟨P', k', c', rfl, hp', b3⟩
  have A3 := A2.next b3
  have t3 := Ext.trans t2 b3
  have hb3 := hb2.below b3
  have hw3 := hw2.below b3
  have hp3 := hp.below b3
  clear A2 t2 hb2 hw2 hp b3 x2
  go_wp2_with fail
  refine (H3.out _ _ _ hw3).mono ?_
  rintro e w4 ⟨rfl, b4⟩
  have A4 := (A3.next b4).alloc (.cells #[.int .u32 (i1 : Int), .int .u32 (i2 : Int), .int .u32 (i3 : Int), .int .i64 (i4 : Int)] 24)
  have R4 := BoxOf.new w4 #[.int .u32 (i1 : Int), .int .u32 (i2 : Int), .int .u32 (i3 : Int), .int .i64 (i4 : Int)] 24
  have t4 := Ext.alloc (Ext.trans t3 b4) (.cells #[.int .u32 (i1 : Int), .int .u32 (i2 : Int), .int .u32 (i3 : Int), .int .i64 (i4 : Int)] 24)
  have hb4 := (hb3.below b4).alloc (.cells #[.int .u32 (i1 : Int), .int .u32 (i2 : Int), .int .u32 (i3 : Int), .int .i64 (i4 : Int)] 24)
  have hw4 := (hw3.below b4).alloc (.cells #[.int .u32 (i1 : Int), .int .u32 (i2 : Int), .int .u32 (i3 : Int), .int .i64 (i4 : Int)] 24)
  have hp4 := (hp3.below b4).alloc (.cells #[.int .u32 (i1 : Int), .int .u32 (i2 : Int), .int .u32 (i3 : Int), .int .i64 (i4 : Int)] 24)
  have hq4 := (hp'.below b4).alloc (.cells #[.int .u32 (i1 : Int), .int .u32 (i2 : Int), .int .u32 (i3 : Int), .int .i64 (i4 : Int)] 24)
  clear A3 t3 hb3 hw3 hp3 hp' b4
  go_wp2_with fail
  obtain ⟨gr, hgr⟩ : ∃ gr : Nat, gr = w4.heap.size := ⟨_, rfl⟩
  rw [← hgr] at R4 ⊢
  clear hgr
  generalize w4.alloc (.cells #[.int .u32 (i1 : Int), .int .u32 (i2 : Int), .int .u32 (i3 : Int), .int .i64 (i4 : Int)] 24) = v4 at *
  refine (H4.out _ _ _ hb4).mono ?_
  rintro e w5 ⟨rfl, b5⟩
  have A5 := (A4.next b5).alloc (.cells #[.int .u32 (i1 : Int), .int .u32 (i2 : Int), .int .u32 (i3 : Int), .int .i64 (i4 : Int)] 24)
  have R5 := (R4.next b5).alloc (.cells #[.int .u32 (i1 : Int), .int .u32 (i2 : Int), .int .u32 (i3 : Int), .int .i64 (i4 : Int)] 24)
  have U5 := BoxOf.new w5 #[.int .u32 (i1 : Int), .int .u32 (i2 : Int), .int .u32 (i3 : Int), .int .i64 (i4 : Int)] 24
  have t5 := Ext.alloc (Ext.trans t4 b5) (.cells #[.int .u32 (i1 : Int), .int .u32 (i2 : Int), .int .u32 (i3 : Int), .int .i64 (i4 : Int)] 24)
  have hb5 := (hb4.below b5).alloc (.cells #[.int .u32 (i1 : Int), .int .u32 (i2 : Int), .int .u32 (i3 : Int), .int .i64 (i4 : Int)] 24)
  have hw5 := (hw4.below b5).alloc (.cells #[.int .u32 (i1 : Int), .int .u32 (i2 : Int), .int .u32 (i3 : Int), .int .i64 (i4 : Int)] 24)
  have hp5 := (hp4.below b5).alloc (.cells #[.int .u32 (i1 : Int), .int .u32 (i2 : Int), .int .u32 (i3 : Int), .int .i64 (i4 : Int)] 24)
  have hq5 := (hq4.below b5).alloc (.cells #[.int .u32 (i1 : Int), .int .u32 (i2 : Int), .int .u32 (i3 : Int), .int .i64 (i4 : Int)] 24)
  clear A4 R4 t4 hb4 hw4 hp4 hq4 b5
  go_upto_region 8 with fail
  obtain ⟨gu, hgu⟩ : ∃ gu : Nat, gu = w5.heap.size := ⟨_, rfl⟩
  rw [← hgu] at U5 ⊢
  clear hgu
  generalize w5.alloc (.cells #[.int .u32 (i1 : Int), .int .u32 (i2 : Int), .int .u32 (i3 : Int), .int .i64 (i4 : Int)] 24) = v5 at *
  refine wp_region_held_drew (S := fun w' => Below w.heap.size w w' ∧ Bs w' A n bs ∧ Bs w' P1 n bs ∧ Bs w' P k ws ∧ Bs w' P' k' ws ∧ BoxOf w' w.heap.size #[.int .u32 (id : Int), .int .u32 (age : Int), .int .u32 (sq : Int), .int .i64 t] 24 ∧ (∀ o, w'.cell? ⟨w.heap.size, o, none⟩ = #[.int .u32 (id : Int), .int .u32 (age : Int), .int .u32 (sq : Int), .int .i64 t].toList[o]?) ∧ BoxOf w' gr #[.int .u32 (i1 : Int), .int .u32 (i2 : Int), .int .u32 (i3 : Int), .int .i64 (i4 : Int)] 24 ∧ (∀ o, w'.cell? ⟨gr, o, none⟩ = #[.int .u32 (i1 : Int), .int .u32 (i2 : Int), .int .u32 (i3 : Int), .int .i64 (i4 : Int)].toList[o]?) ∧ BoxOf w' gu #[.int .u32 (i1 : Int), .int .u32 (i2 : Int), .int .u32 (i3 : Int), .int .i64 (i4 : Int)] 24 ∧ (∀ o, w'.cell? ⟨gu, o, none⟩ = #[.int .u32 (i1 : Int), .int .u32 (i2 : Int), .int .u32 (i3 : Int), .int .i64 (i4 : Int)].toList[o]?)) (by kernel_rfl) ⟨Ext.drew t5, hb5, hw5, hp5, hq5, A5.drew, A5.drew.cell, R5.drew, R5.drew.cell, U5.drew, U5.drew.cell⟩ (fun hS => ?_)
  clear A5 R5 U5 t5 hb5 hw5 hp5 hq5
  refine wpAnyH_take (i := 0) (oi := _) (v := ?_) rfl (by kernel_rfl) (by kernel_rfl) (by kernel_rfl) (fun _ _ _ h => h) (Or.inl ⟨by rfl, ?_⟩) hS ?_
  rotate_left
  · (intro w hSw; (try dsimp only at hSw); go_simp; (try with_reducible rfl))
  rotate_left
  simp only [Act.put, List.getElem_toArray, List.getElem_cons_zero, List.getElem_cons_succ, List.setIfInBounds_toArray, List.set_cons_zero, List.set_cons_succ]
  refine wpAnyH_take (i := 1) (oi := _) (v := ?_) rfl (by kernel_rfl) (by kernel_rfl) (by kernel_rfl) (fun _ _ _ h => h) (Or.inl ⟨by rfl, ?_⟩) hS ?_
  rotate_left
  · (intro w hSw; have sq := run_string_bs (P := Try.prog) c 26 9 5 Try.underlying26 Try.underlying5 Try.underlying9 hSw.2.2.2.1; (try dsimp only at hSw); go_simp; (try with_reducible rfl))
  rotate_left
  simp only [Act.put, List.getElem_toArray, List.getElem_cons_zero, List.getElem_cons_succ, List.setIfInBounds_toArray, List.set_cons_zero, List.set_cons_succ]
  refine wpAnyH_take (i := 2) (oi := _) (v := ?_) rfl (by kernel_rfl) (by kernel_rfl) (by kernel_rfl) (fun _ _ _ h => h) (Or.inl ⟨by rfl, ?_⟩) hS ?_
  rotate_left
  · (intro w hSw; (try dsimp only at hSw); go_simp; (try with_reducible rfl))
  rotate_left
  simp only [Act.put, List.getElem_toArray, List.getElem_cons_zero, List.getElem_cons_succ, List.setIfInBounds_toArray, List.set_cons_zero, List.set_cons_succ]
  refine wpAnyH_take (i := 3) (oi := _) (v := ?_) rfl (by kernel_rfl) (by kernel_rfl) (by kernel_rfl) (fun _ _ _ h => h) (Or.inl ⟨by rfl, ?_⟩) hS ?_
  rotate_left
  · (intro w hSw; have sq := run_string_bs (P := Try.prog) c' 26 9 5 Try.underlying26 Try.underlying5 Try.underlying9 hSw.2.2.2.2.1; (try dsimp only at hSw); go_simp; (try with_reducible rfl))
  rotate_left
  simp only [Act.put, List.getElem_toArray, List.getElem_cons_zero, List.getElem_cons_succ, List.setIfInBounds_toArray, List.set_cons_zero, List.set_cons_succ]
  refine wpAnyH_take (i := 4) (oi := _) (v := ?_) rfl (by kernel_rfl) (by kernel_rfl) (by kernel_rfl) (fun _ _ _ h => h) (Or.inl ⟨by rfl, ?_⟩) hS ?_
  rotate_left
  · (intro w hSw; (try dsimp only at hSw); go_simp; (try with_reducible rfl))
  rotate_left
  simp only [Act.put, List.getElem_toArray, List.getElem_cons_zero, List.getElem_cons_succ, List.setIfInBounds_toArray, List.set_cons_zero, List.set_cons_succ]
  refine wpAnyH_take (i := 5) (oi := _) (v := ?_) rfl (by kernel_rfl) (by kernel_rfl) (by kernel_rfl) (fun _ _ _ h => h) (Or.inl ⟨by rfl, ?_⟩) hS ?_
  rotate_left
  · (intro w hSw; (try dsimp only at hSw); go_simp; (try with_reducible rfl))
  rotate_left
  simp only [Act.put, List.getElem_toArray, List.getElem_cons_zero, List.getElem_cons_succ, List.setIfInBounds_toArray, List.set_cons_zero, List.set_cons_succ]
  refine wpAnyH_take (i := 6) (oi := _) (v := ?_) rfl (by kernel_rfl) (by kernel_rfl) (by kernel_rfl) (fun _ _ _ h => h) (Or.inl ⟨by rfl, ?_⟩) hS ?_
  rotate_left
  · (intro w hSw; (try dsimp only at hSw); go_simp; (try with_reducible rfl))
  rotate_left
  simp only [Act.put, List.getElem_toArray, List.getElem_cons_zero, List.getElem_cons_succ, List.setIfInBounds_toArray, List.set_cons_zero, List.set_cons_succ]
  refine wpAnyH_take (i := 7) (oi := _) (v := ?_) rfl (by kernel_rfl) (by kernel_rfl) (by kernel_rfl) (fun _ _ _ h => h) (Or.inl ⟨by rfl, ?_⟩) hS ?_
  rotate_left
  · (intro w hSw; (try dsimp only at hSw); go_simp; (try with_reducible rfl))
  rotate_left
  simp only [Act.put, List.getElem_toArray, List.getElem_cons_zero, List.getElem_cons_succ, List.setIfInBounds_toArray, List.set_cons_zero, List.set_cons_succ]
  refine wpAnyH_take (i := 8) (oi := _) (v := ?_) rfl (by kernel_rfl) (by kernel_rfl) (by kernel_rfl) (fun _ _ _ h => h) (Or.inl ⟨by rfl, ?_⟩) hS ?_
  rotate_left
  · (intro w hSw; (try dsimp only at hSw); go_simp; (try with_reducible rfl))
  rotate_left
  simp only [Act.put, List.getElem_toArray, List.getElem_cons_zero, List.getElem_cons_succ, List.setIfInBounds_toArray, List.set_cons_zero, List.set_cons_succ]
  refine wpAnyH_take (i := 9) (oi := _) (v := ?_) rfl (by kernel_rfl) (by kernel_rfl) (by kernel_rfl) (fun _ _ _ h => h) (Or.inl ⟨by rfl, ?_⟩) hS ?_
  rotate_left
  · (intro w hSw; (try dsimp only at hSw); go_simp; (try with_reducible rfl))
  rotate_left
  simp only [Act.put, List.getElem_toArray, List.getElem_cons_zero, List.getElem_cons_succ, List.setIfInBounds_toArray, List.set_cons_zero, List.set_cons_succ]
  refine wpAnyH_take (i := 10) (oi := _) (v := ?_) rfl (by kernel_rfl) (by kernel_rfl) (by kernel_rfl) (fun _ _ _ h => h) (Or.inl ⟨by rfl, ?_⟩) hS ?_
  rotate_left
  · (intro w hSw; (try dsimp only at hSw); go_simp; (try with_reducible rfl))
  rotate_left
  simp only [Act.put, List.getElem_toArray, List.getElem_cons_zero, List.getElem_cons_succ, List.setIfInBounds_toArray, List.set_cons_zero, List.set_cons_succ]
  refine wpAnyH_take (i := 11) (oi := _) (v := ?_) rfl (by kernel_rfl) (by kernel_rfl) (by kernel_rfl) (fun _ _ _ h => h) (Or.inl ⟨by rfl, ?_⟩) hS ?_
  rotate_left
  · (intro w hSw; (try dsimp only at hSw); go_simp; (try with_reducible rfl))
  rotate_left
  simp only [Act.put, List.getElem_toArray, List.getElem_cons_zero, List.getElem_cons_succ, List.setIfInBounds_toArray, List.set_cons_zero, List.set_cons_succ]
  refine wpAnyH_take (i := 12) (oi := _) (v := ?_) rfl (by kernel_rfl) (by kernel_rfl) (by kernel_rfl) (fun _ _ _ h => h) (Or.inl ⟨by rfl, ?_⟩) hS ?_
  rotate_left
  · (intro w hSw; (try dsimp only at hSw); go_simp; (try with_reducible rfl))
  rotate_left
  simp only [Act.put, List.getElem_toArray, List.getElem_cons_zero, List.getElem_cons_succ, List.setIfInBounds_toArray, List.set_cons_zero, List.set_cons_succ]
  refine wpAnyH_take (i := 13) (oi := _) (v := ?_) rfl (by kernel_rfl) (by kernel_rfl) (by kernel_rfl) (fun _ _ _ h => h) (Or.inl ⟨by rfl, ?_⟩) hS ?_
  rotate_left
  · (intro w hSw; (try dsimp only at hSw); go_simp; (try with_reducible rfl))
  rotate_left
  simp only [Act.put, List.getElem_toArray, List.getElem_cons_zero, List.getElem_cons_succ, List.setIfInBounds_toArray, List.set_cons_zero, List.set_cons_succ]
  refine wpAnyH_take (i := 14) (oi := _) (v := ?_) rfl (by kernel_rfl) (by kernel_rfl) (by kernel_rfl) (fun _ _ _ h => h) (Or.inl ⟨by rfl, ?_⟩) hS ?_
  rotate_left
  · (intro w hSw; (try dsimp only at hSw); go_simp; (try with_reducible rfl))
  rotate_left
  simp only [Act.put, List.getElem_toArray, List.getElem_cons_zero, List.getElem_cons_succ, List.setIfInBounds_toArray, List.set_cons_zero, List.set_cons_succ]
  refine wpAnyH_take (i := 15) (oi := _) (v := ?_) rfl (by kernel_rfl) (by kernel_rfl) (by kernel_rfl) (fun _ _ _ h => h) (Or.inl ⟨by rfl, ?_⟩) hS ?_
  rotate_left
  · (intro w hSw; (try dsimp only at hSw); go_simp; (try with_reducible rfl))
  rotate_left
  simp only [Act.put, List.getElem_toArray, List.getElem_cons_zero, List.getElem_cons_succ, List.setIfInBounds_toArray, List.set_cons_zero, List.set_cons_succ]
  refine wpAnyH_take (i := 16) (oi := _) (v := ?_) rfl (by kernel_rfl) (by kernel_rfl) (by kernel_rfl) (fun _ _ _ h => h) (Or.inl ⟨by rfl, ?_⟩) hS ?_
  rotate_left
  · (intro w hSw; (try dsimp only at hSw); go_simp; (try with_reducible rfl))
  rotate_left
  simp only [Act.put, List.getElem_toArray, List.getElem_cons_zero, List.getElem_cons_succ, List.setIfInBounds_toArray, List.set_cons_zero, List.set_cons_succ]
  refine wpAnyH_take (i := 17) (oi := _) (v := ?_) rfl (by kernel_rfl) (by kernel_rfl) (by kernel_rfl) (fun _ _ _ h => h) (Or.inl ⟨by rfl, ?_⟩) hS ?_
  rotate_left
  · (intro w hSw; (try dsimp only at hSw); go_simp; (try with_reducible rfl))
  rotate_left
  simp only [Act.put, List.getElem_toArray, List.getElem_cons_zero, List.getElem_cons_succ, List.setIfInBounds_toArray, List.set_cons_zero, List.set_cons_succ]
  refine wpAnyH_take (i := 18) (oi := _) (v := ?_) rfl (by kernel_rfl) (by kernel_rfl) (by kernel_rfl) (fun _ _ _ h => h) (Or.inl ⟨by rfl, ?_⟩) hS ?_
  rotate_left
  · (intro w hSw; (try dsimp only at hSw); go_simp; (try with_reducible rfl))
  rotate_left
  simp only [Act.put, List.getElem_toArray, List.getElem_cons_zero, List.getElem_cons_succ, List.setIfInBounds_toArray, List.set_cons_zero, List.set_cons_succ]
  refine wpAnyH_take (i := 19) (oi := _) (v := ?_) rfl (by kernel_rfl) (by kernel_rfl) (by kernel_rfl) (fun _ _ _ h => h) (Or.inl ⟨by rfl, ?_⟩) hS ?_
  rotate_left
  · (intro w hSw; (try dsimp only at hSw); go_simp; (try with_reducible rfl))
  rotate_left
  simp only [Act.put, List.getElem_toArray, List.getElem_cons_zero, List.getElem_cons_succ, List.setIfInBounds_toArray, List.set_cons_zero, List.set_cons_succ]
  refine wpAnyH_take (i := 20) (oi := _) (v := ?_) rfl (by kernel_rfl) (by kernel_rfl) (by kernel_rfl) (fun _ _ _ h => h) (Or.inl ⟨by rfl, ?_⟩) hS ?_
  rotate_left
  · (intro w hSw; (try dsimp only at hSw); go_simp; (try with_reducible rfl))
  rotate_left
  simp only [Act.put, List.getElem_toArray, List.getElem_cons_zero, List.getElem_cons_succ, List.setIfInBounds_toArray, List.set_cons_zero, List.set_cons_succ]
  refine wpAnyH_take (i := 21) (oi := _) (v := ?_) rfl (by kernel_rfl) (by kernel_rfl) (by kernel_rfl) (fun _ _ _ h => h) (Or.inl ⟨by rfl, ?_⟩) hS ?_
  rotate_left
  · (intro w hSw; (try dsimp only at hSw); go_simp; (try with_reducible rfl))
  rotate_left
  simp only [Act.put, List.getElem_toArray, List.getElem_cons_zero, List.getElem_cons_succ, List.setIfInBounds_toArray, List.set_cons_zero, List.set_cons_succ]
  refine wpAnyH_take (i := 23) (oi := _) (v := ?_) rfl (by kernel_rfl) (by kernel_rfl) (by kernel_rfl) (fun _ _ _ h => h) (Or.inl ⟨by rfl, ?_⟩) hS ?_
  rotate_left
  · (intro w hSw; (try dsimp only at hSw); go_simp; (try with_reducible rfl))
  rotate_left
  simp only [Act.put, List.getElem_toArray, List.getElem_cons_zero, List.getElem_cons_succ, List.setIfInBounds_toArray, List.set_cons_zero, List.set_cons_succ]
  refine wpAnyH_ready (rs := [22]) (by kernel_rfl) (by simp) ?_
  refine AllReadyH.cons rfl (fun K hK => ?_) AllReadyH.nil
  rw [if_pos (by rfl)]
  go_simp
  refine (H5.out _).mono ?_
  rintro e w6 ⟨rfl, b6⟩
  refine hK.out _ _ ⟨Ext.trans hS.1 b6, hS.2.1.below b6, hS.2.2.1.below b6, hS.2.2.2.1.below b6, hS.2.2.2.2.1.below b6, hS.2.2.2.2.2.1.next b6, (hS.2.2.2.2.2.1.next b6).cell, hS.2.2.2.2.2.2.2.1.next b6, (hS.2.2.2.2.2.2.2.1.next b6).cell, hS.2.2.2.2.2.2.2.2.2.1.next b6, (hS.2.2.2.2.2.2.2.2.2.1.next b6).cell⟩ (fun hS' => ?_)
  clear b6
  clear hK K hS
  have hS := hS'
  clear hS'
  try simp only [Act.put, List.getElem_toArray, List.getElem_cons_zero, List.getElem_cons_succ, List.setIfInBounds_toArray, List.set_cons_zero, List.set_cons_succ]
  refine wpAnyH_ready (rs := [24]) (by kernel_rfl) (by simp) ?_
  refine AllReadyH.cons rfl (fun K hK => ?_) AllReadyH.nil
  rw [if_pos (by rfl)]
  go_simp
  refine (H6.out _).mono ?_
  rintro e w7 ⟨rfl, b6⟩
  refine hK.out _ _ ⟨Ext.trans hS.1 b6, hS.2.1.below b6, hS.2.2.1.below b6, hS.2.2.2.1.below b6, hS.2.2.2.2.1.below b6, hS.2.2.2.2.2.1.next b6, (hS.2.2.2.2.2.1.next b6).cell, hS.2.2.2.2.2.2.2.1.next b6, (hS.2.2.2.2.2.2.2.1.next b6).cell, hS.2.2.2.2.2.2.2.2.2.1.next b6, (hS.2.2.2.2.2.2.2.2.2.1.next b6).cell⟩ (fun hS' => ?_)
  clear b6
  clear hK K hS
  have hS := hS'
  clear hS'
  try simp only [Act.put, List.getElem_toArray, List.getElem_cons_zero, List.getElem_cons_succ, List.setIfInBounds_toArray, List.set_cons_zero, List.set_cons_succ]
  refine wpAnyH_take (i := 25) (oi := _) (v := ?_) rfl (by kernel_rfl) (by kernel_rfl) (by kernel_rfl) (fun _ _ _ h => h) (Or.inl ⟨by rfl, ?_⟩) hS ?_
  rotate_left
  · (intro w hSw; (try dsimp only at hSw); go_simp; (try with_reducible rfl))
  rotate_left
  simp only [Act.put, List.getElem_toArray, List.getElem_cons_zero, List.getElem_cons_succ, List.setIfInBounds_toArray, List.set_cons_zero, List.set_cons_succ]
  refine wpAnyH_take (i := 26) (oi := _) (v := ?_) rfl (by kernel_rfl) (by kernel_rfl) (by kernel_rfl) (fun _ _ _ h => h) (Or.inl ⟨by rfl, ?_⟩) hS ?_
  rotate_left
  · (intro w hSw; (try dsimp only at hSw); go_simp; (try with_reducible rfl))
  rotate_left
  simp only [Act.put, List.getElem_toArray, List.getElem_cons_zero, List.getElem_cons_succ, List.setIfInBounds_toArray, List.set_cons_zero, List.set_cons_succ]
  refine wpAnyH_take (i := 27) (oi := _) (v := ?_) rfl (by kernel_rfl) (by kernel_rfl) (by kernel_rfl) (fun _ _ _ h => h) (Or.inl ⟨by rfl, ?_⟩) hS ?_
  rotate_left
  · (intro w hSw; (try dsimp only at hSw); go_simp; (try with_reducible rfl))
  rotate_left
  simp only [Act.put, List.getElem_toArray, List.getElem_cons_zero, List.getElem_cons_succ, List.setIfInBounds_toArray, List.set_cons_zero, List.set_cons_succ]
  refine wpAnyH_take (i := 28) (oi := _) (v := ?_) rfl (by kernel_rfl) (by kernel_rfl) (by kernel_rfl) (fun _ _ _ h => h) (Or.inl ⟨by rfl, ?_⟩) hS ?_
  rotate_left
  · (intro w hSw; (try dsimp only at hSw); go_simp; (try with_reducible rfl))
  rotate_left
  simp only [Act.put, List.getElem_toArray, List.getElem_cons_zero, List.getElem_cons_succ, List.setIfInBounds_toArray, List.set_cons_zero, List.set_cons_succ]
  refine wpAnyH_take (i := 29) (oi := _) (v := ?_) rfl (by kernel_rfl) (by kernel_rfl) (by kernel_rfl) (fun _ _ _ h => h) (Or.inl ⟨by rfl, ?_⟩) hS ?_
  rotate_left
  · (intro w hSw; have sq := run_string_bs (P := Try.prog) c1 26 9 5 Try.underlying26 Try.underlying5 Try.underlying9 hSw.2.2.1; (try dsimp only at hSw); go_simp; (try with_reducible rfl))
  rotate_left
  simp only [Act.put, List.getElem_toArray, List.getElem_cons_zero, List.getElem_cons_succ, List.setIfInBounds_toArray, List.set_cons_zero, List.set_cons_succ]
  refine wpAnyH_take (i := 30) (oi := _) (v := ?_) rfl (by kernel_rfl) (by kernel_rfl) (by kernel_rfl) (fun _ _ _ h => h) (Or.inl ⟨by rfl, ?_⟩) hS ?_
  rotate_left
  · (intro w hSw; (try dsimp only at hSw); go_simp; (try with_reducible rfl))
  rotate_left
  simp only [Act.put, List.getElem_toArray, List.getElem_cons_zero, List.getElem_cons_succ, List.setIfInBounds_toArray, List.set_cons_zero, List.set_cons_succ]
  refine wpAnyH_take (i := 31) (oi := _) (v := ?_) rfl (by kernel_rfl) (by kernel_rfl) (by kernel_rfl) (fun _ _ _ h => h) (Or.inl ⟨by rfl, ?_⟩) hS ?_
  rotate_left
  · (intro w hSw; have sq := run_string_bs (P := Try.prog) q 26 9 5 Try.underlying26 Try.underlying5 Try.underlying9 hSw.2.1; (try dsimp only at hSw); go_simp; (try with_reducible rfl))
  rotate_left
  simp only [Act.put, List.getElem_toArray, List.getElem_cons_zero, List.getElem_cons_succ, List.setIfInBounds_toArray, List.set_cons_zero, List.set_cons_succ]
  refine wpAnyH_take (i := 32) (oi := _) (v := ?_) rfl (by kernel_rfl) (by kernel_rfl) (by kernel_rfl) (fun _ _ _ h => h) (Or.inl ⟨by rfl, ?_⟩) hS ?_
  rotate_left
  · (intro w hSw; (try dsimp only at hSw); go_simp; (try with_reducible rfl))
  rotate_left
  simp only [Act.put, List.getElem_toArray, List.getElem_cons_zero, List.getElem_cons_succ, List.setIfInBounds_toArray, List.set_cons_zero, List.set_cons_succ]
  refine wpAnyH_take (i := 33) (oi := _) (v := ?_) rfl (by kernel_rfl) (by kernel_rfl) (by kernel_rfl) (fun _ _ _ h => h) (Or.inl ⟨by rfl, ?_⟩) hS ?_
  rotate_left
  · (intro w hSw; (try dsimp only at hSw); go_simp; (try with_reducible rfl))
  rotate_left
  simp only [Act.put, List.getElem_toArray, List.getElem_cons_zero, List.getElem_cons_succ, List.setIfInBounds_toArray, List.set_cons_zero, List.set_cons_succ]
  refine wpAnyH_take (i := 34) (oi := _) (v := ?_) rfl (by kernel_rfl) (by kernel_rfl) (by kernel_rfl) (fun _ _ _ h => h) (Or.inl ⟨by rfl, ?_⟩) hS ?_
  rotate_left
  · (intro w hSw; (try dsimp only at hSw); go_simp; (try with_reducible rfl))
  rotate_left
  simp only [Act.put, List.getElem_toArray, List.getElem_cons_zero, List.getElem_cons_succ, List.setIfInBounds_toArray, List.set_cons_zero, List.set_cons_succ]
  refine wpAnyH_done (by kernel_rfl) ?_ _
  have t8 := hS.1
  clear hS
  go_wp2
  go_ret
  exact ⟨rfl, t8⟩
end Go.Proofs.Ytgmlhfencidahaa
