/- Layer 10 (super): unlike supers, unlike blocks; none is a label's: the statement. -/
import Derived.Test.YtgmlhfencidahaaLabelPlain
import Derived.Test.YtgmlhfencidahaaSuperPlain
import Derived.Test.YtgmlhfencidahaaSuperLaws
import Derived.Test.YtgmlhfencidahaaData
namespace Go.Proofs.Ytgmlhfencidahaa
open Go Go.RowKit
set_option linter.unusedSimpArgs false
set_option linter.unusedVariables false

set_option maxRecDepth 100000 in
set_option maxHeartbeats 4000000 in
theorem sunlike_core (id age sq : Nat) (t : Int) (id' age' sq' : Nat) (t' : Int) (lid lev : Nat) (m c r l me lost dn : Int) (op : Bool) (E F G : Int) (ws us vs : List UInt8) (b : Bool)
    (h1 : ∀ W, Calls Try.prog 10 #[.agg #[.int .u32 (id : Int), .int .u32 (age : Int), .int .u32 (sq : Int), .int .i64 t]] W fun e w' => ∃ P k c, e = .returned (.tuple #[.slice P k c, .int .i64 E]) ∧ Bs w' P k ws ∧ Below W.heap.size W w')
    (h2 : ∀ W, Calls Try.prog 10 #[.agg #[.int .u32 (id' : Int), .int .u32 (age' : Int), .int .u32 (sq' : Int), .int .i64 t']] W fun e w' => ∃ P k c, e = .returned (.tuple #[.slice P k c, .int .i64 F]) ∧ Bs w' P k us ∧ Below W.heap.size W w')
    (h4 : ∀ W, Calls Try.prog 18 #[.agg #[.int .u32 (lid : Int), .int .u32 (lev : Int), .int .i64 m, .int .i64 c, .int .i64 r, .int .i64 l, .int .i64 me, .int .i64 lost, .int .i64 dn, .bool op]] W fun e w' => ∃ P k c, e = .returned (.tuple #[.slice P k c, .int .i64 G]) ∧ Bs w' P k vs ∧ Below W.heap.size W w')
    (hL : ((G != 0) = true) ∨ (G = 0 ∧ ∀ A n q W, Bs W A n vs → Calls Try.prog 13 #[.slice A n q] W fun e w' => e = .returned (.tuple #[.agg #[.int .u32 0, .int .u32 0, .int .u32 0, .int .i64 0], .int .i64 90]) ∧ Below W.heap.size W w'))
    (hc : ((E != 0) = true) ∨ (E = 0 ∧ (∀ A n q W, Bs W A n ws → Calls Try.prog 17 #[.slice A n q] W fun e w' => e = .returned (.tuple #[.agg #[.int .u32 0, .int .u32 0, .int .i64 0, .int .i64 0, .int .i64 0, .int .i64 0, .int .i64 0, .int .i64 0, .int .i64 0, .bool false], .int .i64 90]) ∧ Below W.heap.size W w') ∧ ((F != 0) = true ∨ (F = 0 ∧ (ws == us) = b ∧ decide ((id : Int) = (id' : Int) ∧ (age : Int) = (age' : Int) ∧ (sq : Int) = (sq' : Int) ∧ t = t') = b)))) (w : World) :
    Calls Try.prog 8 #[.agg #[.int .u32 (id : Int), .int .u32 (age : Int), .int .u32 (sq : Int), .int .i64 t], .agg #[.int .u32 (id' : Int), .int .u32 (age' : Int), .int .u32 (sq' : Int), .int .i64 t'], .agg #[.int .u32 (lid : Int), .int .u32 (lev : Int), .int .i64 m, .int .i64 c, .int .i64 r, .int .i64 l, .int .i64 me, .int .i64 lost, .int .i64 dn, .bool op]] w fun e w' => e = .returned (.bool true) ∧ Below w.heap.size w w' := by
  have H1 := Lib.hid h1
  have H2 := Lib.hid h2
  have H4 := Lib.hid h4
  have HL := Lib.hid hL
  have HC := Lib.hid hc
  clear h1 h2 h4 hL hc
  go_enter Try.func8, Try.ntmps8
  go_wp2_with fail
  have A0 := ((BoxOf.new w #[.int .u32 (id : Int), .int .u32 (age : Int), .int .u32 (sq : Int), .int .i64 t] 24).alloc (.cells #[.int .u32 (id' : Int), .int .u32 (age' : Int), .int .u32 (sq' : Int), .int .i64 t'] 24)).alloc (.cells #[.int .u32 (lid : Int), .int .u32 (lev : Int), .int .i64 m, .int .i64 c, .int .i64 r, .int .i64 l, .int .i64 me, .int .i64 lost, .int .i64 dn, .bool op] 44)
  have B0 := (BoxOf.new' (w.alloc (.cells #[.int .u32 (id : Int), .int .u32 (age : Int), .int .u32 (sq : Int), .int .i64 t] 24)) (w.heap.size + 1) #[.int .u32 (id' : Int), .int .u32 (age' : Int), .int .u32 (sq' : Int), .int .i64 t'] 24 (by simp)).alloc (.cells #[.int .u32 (lid : Int), .int .u32 (lev : Int), .int .i64 m, .int .i64 c, .int .i64 r, .int .i64 l, .int .i64 me, .int .i64 lost, .int .i64 dn, .bool op] 44)
  have L0 := BoxOf.new' ((w.alloc (.cells #[.int .u32 (id : Int), .int .u32 (age : Int), .int .u32 (sq : Int), .int .i64 t] 24)).alloc (.cells #[.int .u32 (id' : Int), .int .u32 (age' : Int), .int .u32 (sq' : Int), .int .i64 t'] 24)) (w.heap.size + 1 + 1) #[.int .u32 (lid : Int), .int .u32 (lev : Int), .int .i64 m, .int .i64 c, .int .i64 r, .int .i64 l, .int .i64 me, .int .i64 lost, .int .i64 dn, .bool op] 44 (by simp)
  have t0 := Ext.alloc (Ext.alloc (Ext.alloc (Below.refl w.heap.size w) (.cells #[.int .u32 (id : Int), .int .u32 (age : Int), .int .u32 (sq : Int), .int .i64 t] 24)) (.cells #[.int .u32 (id' : Int), .int .u32 (age' : Int), .int .u32 (sq' : Int), .int .i64 t'] 24)) (.cells #[.int .u32 (lid : Int), .int .u32 (lev : Int), .int .i64 m, .int .i64 c, .int .i64 r, .int .i64 l, .int .i64 me, .int .i64 lost, .int .i64 dn, .bool op] 44)
  refine (sualive_any _).mono ?_
  rintro e w1 ⟨rfl, b1⟩
  have A1 := A0.next b1
  have B1 := B0.next b1
  have L1 := L0.next b1
  have t1 := Ext.trans t0 b1
  have x1 := A1.cell
  clear A0 B0 L0 t0 b1
  go_wp2_with fail
  refine (H1.out _).mono ?_
  rintro e w2 ⟨P, k, ca, rfl, hp, b2⟩
  have A2 := A1.next b2
  have B2 := B1.next b2
  have L2 := L1.next b2
  have t2 := Ext.trans t1 b2
  have y2 := B2.cell
  clear A1 B1 L1 t1 b2 x1
  go_wp2_with fail
  refine (H2.out _).mono ?_
  rintro e w3 ⟨P', k', cb, rfl, hq3, b3⟩
  have A3 := A2.next b3
  have B3 := B2.next b3
  have L3 := L2.next b3
  have t3 := Ext.trans t2 b3
  have hp3 := hp.below b3
  clear A2 B2 L2 t2 b3 hp y2
  rcases HC.out with hE | ⟨rfl, h3, hF | ⟨rfl, hb, heq⟩⟩
  · have hE' : (E == 0) = false := by simpa using hE
    go_upto_region 4 with fail
    refine wp_region_held_drew (S := fun w' => Below w.heap.size w w' ∧ Bs w' P k ws ∧ Bs w' P' k' us ∧ BoxOf w' w.heap.size #[.int .u32 (id : Int), .int .u32 (age : Int), .int .u32 (sq : Int), .int .i64 t] 24 ∧ (∀ o, w'.cell? ⟨w.heap.size, o, none⟩ = #[.int .u32 (id : Int), .int .u32 (age : Int), .int .u32 (sq : Int), .int .i64 t].toList[o]?) ∧ BoxOf w' (w.heap.size + 1) #[.int .u32 (id' : Int), .int .u32 (age' : Int), .int .u32 (sq' : Int), .int .i64 t'] 24 ∧ (∀ o, w'.cell? ⟨w.heap.size + 1, o, none⟩ = #[.int .u32 (id' : Int), .int .u32 (age' : Int), .int .u32 (sq' : Int), .int .i64 t'].toList[o]?) ∧ BoxOf w' (w.heap.size + 1 + 1) #[.int .u32 (lid : Int), .int .u32 (lev : Int), .int .i64 m, .int .i64 c, .int .i64 r, .int .i64 l, .int .i64 me, .int .i64 lost, .int .i64 dn, .bool op] 44) (by kernel_rfl) ⟨Ext.drew t3, hp3, hq3, A3.drew, A3.drew.cell, B3.drew, B3.drew.cell, L3.drew⟩ (fun hS => ?_)
    clear t3 A3 B3 L3 hp3 hq3
    refine wpAnyH_take (i := 0) (oi := _) (v := ?_) rfl (by kernel_rfl) (by kernel_rfl) (by kernel_rfl) (fun _ _ _ h => h) (Or.inl ⟨by rfl, ?_⟩) hS ?_
    rotate_left
    · (intro w hSw; (try dsimp only at hSw); go_simp; (try with_reducible rfl))
    rotate_left
    simp only [Act.put, List.getElem_toArray, List.getElem_cons_zero, List.getElem_cons_succ, List.setIfInBounds_toArray, List.set_cons_zero, List.set_cons_succ]
    refine wpAnyH_take (i := 1) (oi := _) (v := ?_) rfl (by kernel_rfl) (by kernel_rfl) (by kernel_rfl) (fun _ _ _ h => h) (Or.inl ⟨by rfl, ?_⟩) hS ?_
    rotate_left
    · (intro w hSw; (try dsimp only at hSw); go_simp; (try with_reducible rfl))
    rotate_left
    simp only [Act.put, List.getElem_toArray, List.getElem_cons_zero, List.getElem_cons_succ, List.setIfInBounds_toArray, List.set_cons_zero, List.set_cons_succ]
    refine wpAnyH_take (i := 2) (oi := _) (v := ?_) rfl (by kernel_rfl) (by kernel_rfl) (by kernel_rfl) (fun _ _ _ h => h) (Or.inl ⟨by rfl, ?_⟩) hS ?_
    rotate_left
    · (intro w hSw; (try dsimp only at hSw); go_simp; (try with_reducible rfl))
    rotate_left
    simp only [Act.put, List.getElem_toArray, List.getElem_cons_zero, List.getElem_cons_succ, List.setIfInBounds_toArray, List.set_cons_zero, List.set_cons_succ]
    refine wpAnyH_take (i := 3) (oi := _) (v := ?_) rfl (by kernel_rfl) (by kernel_rfl) (by kernel_rfl) (fun _ _ _ h => h) (Or.inr ⟨by rfl, ?_⟩) hS ?_
    rotate_left
    · rfl
    rotate_left
    simp only [Act.put, List.getElem_toArray, List.getElem_cons_zero, List.getElem_cons_succ, List.setIfInBounds_toArray, List.set_cons_zero, List.set_cons_succ]
    refine wpAnyH_take (i := 4) (oi := _) (v := ?_) rfl (by kernel_rfl) (by kernel_rfl) (by kernel_rfl) (fun _ _ _ h => h) (Or.inr ⟨by rfl, ?_⟩) hS ?_
    rotate_left
    · rfl
    rotate_left
    simp only [Act.put, List.getElem_toArray, List.getElem_cons_zero, List.getElem_cons_succ, List.setIfInBounds_toArray, List.set_cons_zero, List.set_cons_succ]
    refine wpAnyH_take (i := 5) (oi := _) (v := ?_) rfl (by kernel_rfl) (by kernel_rfl) (by kernel_rfl) (fun _ _ _ h => h) (Or.inl ⟨by rfl, ?_⟩) hS ?_
    rotate_left
    · (intro w hSw; (try dsimp only at hSw); go_simp; (try with_reducible rfl))
    rotate_left
    simp only [Act.put, List.getElem_toArray, List.getElem_cons_zero, List.getElem_cons_succ, List.setIfInBounds_toArray, List.set_cons_zero, List.set_cons_succ]
    refine wpAnyH_take (i := 6) (oi := _) (v := ?_) rfl (by kernel_rfl) (by kernel_rfl) (by kernel_rfl) (fun _ _ _ h => h) (Or.inl ⟨by rfl, ?_⟩) hS ?_
    rotate_left
    · (intro w hSw; (try dsimp only at hSw); go_simp; (try with_reducible rfl))
    rotate_left
    simp only [Act.put, List.getElem_toArray, List.getElem_cons_zero, List.getElem_cons_succ, List.setIfInBounds_toArray, List.set_cons_zero, List.set_cons_succ]
    refine wpAnyH_take (i := 7) (oi := _) (v := ?_) rfl (by kernel_rfl) (by kernel_rfl) (by kernel_rfl) (fun _ _ _ h => h) (Or.inr ⟨by rfl, ?_⟩) hS ?_
    rotate_left
    · rfl
    rotate_left
    simp only [Act.put, List.getElem_toArray, List.getElem_cons_zero, List.getElem_cons_succ, List.setIfInBounds_toArray, List.set_cons_zero, List.set_cons_succ]
    refine wpAnyH_take (i := 8) (oi := _) (v := ?_) rfl (by kernel_rfl) (by kernel_rfl) (by kernel_rfl) (fun _ _ _ h => h) (Or.inr ⟨by rfl, ?_⟩) hS ?_
    rotate_left
    · rfl
    rotate_left
    simp only [Act.put, List.getElem_toArray, List.getElem_cons_zero, List.getElem_cons_succ, List.setIfInBounds_toArray, List.set_cons_zero, List.set_cons_succ]
    refine wpAnyH_take (i := 9) (oi := _) (v := ?_) rfl (by kernel_rfl) (by kernel_rfl) (by kernel_rfl) (fun _ _ _ h => h) (Or.inr ⟨by rfl, ?_⟩) hS ?_
    rotate_left
    · rfl
    rotate_left
    simp only [Act.put, List.getElem_toArray, List.getElem_cons_zero, List.getElem_cons_succ, List.setIfInBounds_toArray, List.set_cons_zero, List.set_cons_succ]
    refine wpAnyH_take (i := 10) (oi := _) (v := ?_) rfl (by kernel_rfl) (by kernel_rfl) (by kernel_rfl) (fun _ _ _ h => h) (Or.inr ⟨by rfl, ?_⟩) hS ?_
    rotate_left
    · rfl
    rotate_left
    simp only [Act.put, List.getElem_toArray, List.getElem_cons_zero, List.getElem_cons_succ, List.setIfInBounds_toArray, List.set_cons_zero, List.set_cons_succ]
    refine wpAnyH_take (i := 11) (oi := _) (v := ?_) rfl (by kernel_rfl) (by kernel_rfl) (by kernel_rfl) (fun _ _ _ h => h) (Or.inr ⟨by rfl, ?_⟩) hS ?_
    rotate_left
    · rfl
    rotate_left
    simp only [Act.put, List.getElem_toArray, List.getElem_cons_zero, List.getElem_cons_succ, List.setIfInBounds_toArray, List.set_cons_zero, List.set_cons_succ]
    refine wpAnyH_take (i := 12) (oi := _) (v := ?_) rfl (by kernel_rfl) (by kernel_rfl) (by kernel_rfl) (fun _ _ _ h => h) (Or.inr ⟨by rfl, ?_⟩) hS ?_
    rotate_left
    · rfl
    rotate_left
    simp only [Act.put, List.getElem_toArray, List.getElem_cons_zero, List.getElem_cons_succ, List.setIfInBounds_toArray, List.set_cons_zero, List.set_cons_succ]
    refine wpAnyH_take (i := 13) (oi := _) (v := ?_) rfl (by kernel_rfl) (by kernel_rfl) (by kernel_rfl) (fun _ _ _ h => h) (Or.inr ⟨by rfl, ?_⟩) hS ?_
    rotate_left
    · rfl
    rotate_left
    simp only [Act.put, List.getElem_toArray, List.getElem_cons_zero, List.getElem_cons_succ, List.setIfInBounds_toArray, List.set_cons_zero, List.set_cons_succ]
    refine wpAnyH_take (i := 14) (oi := _) (v := ?_) rfl (by kernel_rfl) (by kernel_rfl) (by kernel_rfl) (fun _ _ _ h => h) (Or.inr ⟨by rfl, ?_⟩) hS ?_
    rotate_left
    · rfl
    rotate_left
    simp only [Act.put, List.getElem_toArray, List.getElem_cons_zero, List.getElem_cons_succ, List.setIfInBounds_toArray, List.set_cons_zero, List.set_cons_succ]
    refine wpAnyH_take (i := 15) (oi := _) (v := ?_) rfl (by kernel_rfl) (by kernel_rfl) (by kernel_rfl) (fun _ _ _ h => h) (Or.inr ⟨by rfl, ?_⟩) hS ?_
    rotate_left
    · rfl
    rotate_left
    simp only [Act.put, List.getElem_toArray, List.getElem_cons_zero, List.getElem_cons_succ, List.setIfInBounds_toArray, List.set_cons_zero, List.set_cons_succ]
    refine wpAnyH_take (i := 16) (oi := _) (v := ?_) rfl (by kernel_rfl) (by kernel_rfl) (by kernel_rfl) (fun _ _ _ h => h) (Or.inl ⟨by rfl, ?_⟩) hS ?_
    rotate_left
    · (intro w hSw; (try dsimp only at hSw); go_simp; (try with_reducible rfl))
    rotate_left
    simp only [Act.put, List.getElem_toArray, List.getElem_cons_zero, List.getElem_cons_succ, List.setIfInBounds_toArray, List.set_cons_zero, List.set_cons_succ]
    refine wpAnyH_done (by kernel_rfl) ?_ _
    have t5 := hS.1
    have hp5 := hS.2.1
    have L5 := hS.2.2.2.2.2.2.2
    clear hS
    have t6 := t5
    have x6 := L5.cell
    clear t5 L5 hp5
    go_wp2_with fail
    refine (H4.out _).mono ?_
    rintro e w7 ⟨P7, k7, c7, rfl, hp7, b7⟩
    have t7 := Ext.trans t6 b7
    clear t6 b7 x6
    rcases HL.out with hG | ⟨rfl, h5⟩
    · go_wp2
      go_ret
      exact ⟨rfl, t7⟩
    · go_wp2_with fail
      refine (h5 _ _ _ _ hp7).mono ?_
      rintro e w8 ⟨rfl, b8⟩
      have t8 := Ext.alloc (Ext.trans t7 b8) (.cells #[.int .u32 0, .int .u32 0, .int .u32 0, .int .i64 0] 24)
      clear t7 b8 hp7
      go_wp2
      go_ret
      exact ⟨rfl, t8⟩
  · have H3 := Lib.hid h3
    have hF' : (F == 0) = false := by simpa using hF
    clear h3
    go_upto_region 4 with fail
    refine wp_region_held_drew (S := fun w' => Below w.heap.size w w' ∧ Bs w' P k ws ∧ Bs w' P' k' us ∧ BoxOf w' w.heap.size #[.int .u32 (id : Int), .int .u32 (age : Int), .int .u32 (sq : Int), .int .i64 t] 24 ∧ (∀ o, w'.cell? ⟨w.heap.size, o, none⟩ = #[.int .u32 (id : Int), .int .u32 (age : Int), .int .u32 (sq : Int), .int .i64 t].toList[o]?) ∧ BoxOf w' (w.heap.size + 1) #[.int .u32 (id' : Int), .int .u32 (age' : Int), .int .u32 (sq' : Int), .int .i64 t'] 24 ∧ (∀ o, w'.cell? ⟨w.heap.size + 1, o, none⟩ = #[.int .u32 (id' : Int), .int .u32 (age' : Int), .int .u32 (sq' : Int), .int .i64 t'].toList[o]?) ∧ BoxOf w' (w.heap.size + 1 + 1) #[.int .u32 (lid : Int), .int .u32 (lev : Int), .int .i64 m, .int .i64 c, .int .i64 r, .int .i64 l, .int .i64 me, .int .i64 lost, .int .i64 dn, .bool op] 44) (by kernel_rfl) ⟨Ext.drew t3, hp3, hq3, A3.drew, A3.drew.cell, B3.drew, B3.drew.cell, L3.drew⟩ (fun hS => ?_)
    clear t3 A3 B3 L3 hp3 hq3
    refine wpAnyH_take (i := 0) (oi := _) (v := ?_) rfl (by kernel_rfl) (by kernel_rfl) (by kernel_rfl) (fun _ _ _ h => h) (Or.inl ⟨by rfl, ?_⟩) hS ?_
    rotate_left
    · (intro w hSw; (try dsimp only at hSw); go_simp; (try with_reducible rfl))
    rotate_left
    simp only [Act.put, List.getElem_toArray, List.getElem_cons_zero, List.getElem_cons_succ, List.setIfInBounds_toArray, List.set_cons_zero, List.set_cons_succ]
    refine wpAnyH_take (i := 1) (oi := _) (v := ?_) rfl (by kernel_rfl) (by kernel_rfl) (by kernel_rfl) (fun _ _ _ h => h) (Or.inl ⟨by rfl, ?_⟩) hS ?_
    rotate_left
    · (intro w hSw; (try dsimp only at hSw); go_simp; (try with_reducible rfl))
    rotate_left
    simp only [Act.put, List.getElem_toArray, List.getElem_cons_zero, List.getElem_cons_succ, List.setIfInBounds_toArray, List.set_cons_zero, List.set_cons_succ]
    refine wpAnyH_take (i := 2) (oi := _) (v := ?_) rfl (by kernel_rfl) (by kernel_rfl) (by kernel_rfl) (fun _ _ _ h => h) (Or.inl ⟨by rfl, ?_⟩) hS ?_
    rotate_left
    · (intro w hSw; (try dsimp only at hSw); go_simp; (try with_reducible rfl))
    rotate_left
    simp only [Act.put, List.getElem_toArray, List.getElem_cons_zero, List.getElem_cons_succ, List.setIfInBounds_toArray, List.set_cons_zero, List.set_cons_succ]
    refine wpAnyH_take (i := 3) (oi := _) (v := ?_) rfl (by kernel_rfl) (by kernel_rfl) (by kernel_rfl) (fun _ _ _ h => h) (Or.inl ⟨by rfl, ?_⟩) hS ?_
    rotate_left
    · (intro w hSw; (try dsimp only at hSw); go_simp; (try with_reducible rfl))
    rotate_left
    simp only [Act.put, List.getElem_toArray, List.getElem_cons_zero, List.getElem_cons_succ, List.setIfInBounds_toArray, List.set_cons_zero, List.set_cons_succ]
    refine wpAnyH_take (i := 4) (oi := _) (v := ?_) rfl (by kernel_rfl) (by kernel_rfl) (by kernel_rfl) (fun _ _ _ h => h) (Or.inl ⟨by rfl, ?_⟩) hS ?_
    rotate_left
    · (intro w hSw; (try dsimp only at hSw); go_simp; (try with_reducible rfl))
    rotate_left
    simp only [Act.put, List.getElem_toArray, List.getElem_cons_zero, List.getElem_cons_succ, List.setIfInBounds_toArray, List.set_cons_zero, List.set_cons_succ]
    refine wpAnyH_take (i := 5) (oi := _) (v := ?_) rfl (by kernel_rfl) (by kernel_rfl) (by kernel_rfl) (fun _ _ _ h => h) (Or.inl ⟨by rfl, ?_⟩) hS ?_
    rotate_left
    · (intro w hSw; (try dsimp only at hSw); go_simp; (try with_reducible rfl))
    rotate_left
    simp only [Act.put, List.getElem_toArray, List.getElem_cons_zero, List.getElem_cons_succ, List.setIfInBounds_toArray, List.set_cons_zero, List.set_cons_succ]
    refine wpAnyH_take (i := 6) (oi := _) (v := ?_) rfl (by kernel_rfl) (by kernel_rfl) (by kernel_rfl) (fun _ _ _ h => h) (Or.inl ⟨by rfl, ?_⟩) hS ?_
    rotate_left
    · (intro w hSw; (try dsimp only at hSw); go_simp; (try with_reducible rfl))
    rotate_left
    simp only [Act.put, List.getElem_toArray, List.getElem_cons_zero, List.getElem_cons_succ, List.setIfInBounds_toArray, List.set_cons_zero, List.set_cons_succ]
    refine wpAnyH_take (i := 7) (oi := _) (v := ?_) rfl (by kernel_rfl) (by kernel_rfl) (by kernel_rfl) (fun _ _ _ h => h) (Or.inr ⟨by rfl, ?_⟩) hS ?_
    rotate_left
    · rfl
    rotate_left
    simp only [Act.put, List.getElem_toArray, List.getElem_cons_zero, List.getElem_cons_succ, List.setIfInBounds_toArray, List.set_cons_zero, List.set_cons_succ]
    refine wpAnyH_take (i := 8) (oi := _) (v := ?_) rfl (by kernel_rfl) (by kernel_rfl) (by kernel_rfl) (fun _ _ _ h => h) (Or.inr ⟨by rfl, ?_⟩) hS ?_
    rotate_left
    · rfl
    rotate_left
    simp only [Act.put, List.getElem_toArray, List.getElem_cons_zero, List.getElem_cons_succ, List.setIfInBounds_toArray, List.set_cons_zero, List.set_cons_succ]
    refine wpAnyH_take (i := 9) (oi := _) (v := ?_) rfl (by kernel_rfl) (by kernel_rfl) (by kernel_rfl) (fun _ _ _ h => h) (Or.inr ⟨by rfl, ?_⟩) hS ?_
    rotate_left
    · rfl
    rotate_left
    simp only [Act.put, List.getElem_toArray, List.getElem_cons_zero, List.getElem_cons_succ, List.setIfInBounds_toArray, List.set_cons_zero, List.set_cons_succ]
    refine wpAnyH_take (i := 10) (oi := _) (v := ?_) rfl (by kernel_rfl) (by kernel_rfl) (by kernel_rfl) (fun _ _ _ h => h) (Or.inr ⟨by rfl, ?_⟩) hS ?_
    rotate_left
    · rfl
    rotate_left
    simp only [Act.put, List.getElem_toArray, List.getElem_cons_zero, List.getElem_cons_succ, List.setIfInBounds_toArray, List.set_cons_zero, List.set_cons_succ]
    refine wpAnyH_take (i := 11) (oi := _) (v := ?_) rfl (by kernel_rfl) (by kernel_rfl) (by kernel_rfl) (fun _ _ _ h => h) (Or.inr ⟨by rfl, ?_⟩) hS ?_
    rotate_left
    · rfl
    rotate_left
    simp only [Act.put, List.getElem_toArray, List.getElem_cons_zero, List.getElem_cons_succ, List.setIfInBounds_toArray, List.set_cons_zero, List.set_cons_succ]
    refine wpAnyH_take (i := 12) (oi := _) (v := ?_) rfl (by kernel_rfl) (by kernel_rfl) (by kernel_rfl) (fun _ _ _ h => h) (Or.inr ⟨by rfl, ?_⟩) hS ?_
    rotate_left
    · rfl
    rotate_left
    simp only [Act.put, List.getElem_toArray, List.getElem_cons_zero, List.getElem_cons_succ, List.setIfInBounds_toArray, List.set_cons_zero, List.set_cons_succ]
    refine wpAnyH_take (i := 13) (oi := _) (v := ?_) rfl (by kernel_rfl) (by kernel_rfl) (by kernel_rfl) (fun _ _ _ h => h) (Or.inr ⟨by rfl, ?_⟩) hS ?_
    rotate_left
    · rfl
    rotate_left
    simp only [Act.put, List.getElem_toArray, List.getElem_cons_zero, List.getElem_cons_succ, List.setIfInBounds_toArray, List.set_cons_zero, List.set_cons_succ]
    refine wpAnyH_take (i := 14) (oi := _) (v := ?_) rfl (by kernel_rfl) (by kernel_rfl) (by kernel_rfl) (fun _ _ _ h => h) (Or.inr ⟨by rfl, ?_⟩) hS ?_
    rotate_left
    · rfl
    rotate_left
    simp only [Act.put, List.getElem_toArray, List.getElem_cons_zero, List.getElem_cons_succ, List.setIfInBounds_toArray, List.set_cons_zero, List.set_cons_succ]
    refine wpAnyH_take (i := 15) (oi := _) (v := ?_) rfl (by kernel_rfl) (by kernel_rfl) (by kernel_rfl) (fun _ _ _ h => h) (Or.inr ⟨by rfl, ?_⟩) hS ?_
    rotate_left
    · rfl
    rotate_left
    simp only [Act.put, List.getElem_toArray, List.getElem_cons_zero, List.getElem_cons_succ, List.setIfInBounds_toArray, List.set_cons_zero, List.set_cons_succ]
    refine wpAnyH_take (i := 16) (oi := _) (v := ?_) rfl (by kernel_rfl) (by kernel_rfl) (by kernel_rfl) (fun _ _ _ h => h) (Or.inl ⟨by rfl, ?_⟩) hS ?_
    rotate_left
    · (intro w hSw; (try dsimp only at hSw); go_simp; (try with_reducible rfl))
    rotate_left
    simp only [Act.put, List.getElem_toArray, List.getElem_cons_zero, List.getElem_cons_succ, List.setIfInBounds_toArray, List.set_cons_zero, List.set_cons_succ]
    refine wpAnyH_done (by kernel_rfl) ?_ _
    have t5 := hS.1
    have hp5 := hS.2.1
    have L5 := hS.2.2.2.2.2.2.2
    clear hS
    go_wp2_with fail
    refine (H3.out _ _ _ _ hp5).mono ?_
    rintro e w5 ⟨rfl, b5⟩
    have L6 := (L5.next b5).alloc (.cells #[.int .u32 0, .int .u32 0, .int .i64 0, .int .i64 0, .int .i64 0, .int .i64 0, .int .i64 0, .int .i64 0, .int .i64 0, .bool false] 44)
    have t6 := Ext.alloc (Ext.trans t5 b5) (.cells #[.int .u32 0, .int .u32 0, .int .i64 0, .int .i64 0, .int .i64 0, .int .i64 0, .int .i64 0, .int .i64 0, .int .i64 0, .bool false] 44)
    have x6 := L6.cell
    clear t5 L5 hp5 b5 L6
    go_wp2_with fail
    refine (H4.out _).mono ?_
    rintro e w7 ⟨P7, k7, c7, rfl, hp7, b7⟩
    have t7 := Ext.trans t6 b7
    clear t6 b7 x6
    rcases HL.out with hG | ⟨rfl, h5⟩
    · go_wp2
      go_ret
      exact ⟨rfl, t7⟩
    · go_wp2_with fail
      refine (h5 _ _ _ _ hp7).mono ?_
      rintro e w8 ⟨rfl, b8⟩
      have t8 := Ext.alloc (Ext.trans t7 b8) (.cells #[.int .u32 0, .int .u32 0, .int .u32 0, .int .i64 0] 24)
      clear t7 b8 hp7
      go_wp2
      go_ret
      exact ⟨rfl, t8⟩
  · have H3 := Lib.hid h3
    have HEQ := Lib.hid heq
    clear h3 heq
    go_upto_region 4 with fail
    refine wp_region_held_drew (S := fun w' => Below w.heap.size w w' ∧ Bs w' P k ws ∧ Bs w' P' k' us ∧ BoxOf w' w.heap.size #[.int .u32 (id : Int), .int .u32 (age : Int), .int .u32 (sq : Int), .int .i64 t] 24 ∧ (∀ o, w'.cell? ⟨w.heap.size, o, none⟩ = #[.int .u32 (id : Int), .int .u32 (age : Int), .int .u32 (sq : Int), .int .i64 t].toList[o]?) ∧ BoxOf w' (w.heap.size + 1) #[.int .u32 (id' : Int), .int .u32 (age' : Int), .int .u32 (sq' : Int), .int .i64 t'] 24 ∧ (∀ o, w'.cell? ⟨w.heap.size + 1, o, none⟩ = #[.int .u32 (id' : Int), .int .u32 (age' : Int), .int .u32 (sq' : Int), .int .i64 t'].toList[o]?) ∧ BoxOf w' (w.heap.size + 1 + 1) #[.int .u32 (lid : Int), .int .u32 (lev : Int), .int .i64 m, .int .i64 c, .int .i64 r, .int .i64 l, .int .i64 me, .int .i64 lost, .int .i64 dn, .bool op] 44) (by kernel_rfl) ⟨Ext.drew t3, hp3, hq3, A3.drew, A3.drew.cell, B3.drew, B3.drew.cell, L3.drew⟩ (fun hS => ?_)
    clear t3 A3 B3 L3 hp3 hq3
    refine wpAnyH_take (i := 0) (oi := _) (v := ?_) rfl (by kernel_rfl) (by kernel_rfl) (by kernel_rfl) (fun _ _ _ h => h) (Or.inl ⟨by rfl, ?_⟩) hS ?_
    rotate_left
    · (intro w hSw; (try dsimp only at hSw); go_simp; (try with_reducible rfl))
    rotate_left
    simp only [Act.put, List.getElem_toArray, List.getElem_cons_zero, List.getElem_cons_succ, List.setIfInBounds_toArray, List.set_cons_zero, List.set_cons_succ]
    refine wpAnyH_take (i := 1) (oi := _) (v := ?_) rfl (by kernel_rfl) (by kernel_rfl) (by kernel_rfl) (fun _ _ _ h => h) (Or.inl ⟨by rfl, ?_⟩) hS ?_
    rotate_left
    · (intro w hSw; (try dsimp only at hSw); go_simp; (try with_reducible rfl))
    rotate_left
    simp only [Act.put, List.getElem_toArray, List.getElem_cons_zero, List.getElem_cons_succ, List.setIfInBounds_toArray, List.set_cons_zero, List.set_cons_succ]
    refine wpAnyH_take (i := 2) (oi := _) (v := ?_) rfl (by kernel_rfl) (by kernel_rfl) (by kernel_rfl) (fun _ _ _ h => h) (Or.inl ⟨by rfl, ?_⟩) hS ?_
    rotate_left
    · (intro w hSw; (try dsimp only at hSw); go_simp; (try with_reducible rfl))
    rotate_left
    simp only [Act.put, List.getElem_toArray, List.getElem_cons_zero, List.getElem_cons_succ, List.setIfInBounds_toArray, List.set_cons_zero, List.set_cons_succ]
    refine wpAnyH_take (i := 3) (oi := _) (v := ?_) rfl (by kernel_rfl) (by kernel_rfl) (by kernel_rfl) (fun _ _ _ h => h) (Or.inl ⟨by rfl, ?_⟩) hS ?_
    rotate_left
    · (intro w hSw; (try dsimp only at hSw); go_simp; (try with_reducible rfl))
    rotate_left
    simp only [Act.put, List.getElem_toArray, List.getElem_cons_zero, List.getElem_cons_succ, List.setIfInBounds_toArray, List.set_cons_zero, List.set_cons_succ]
    refine wpAnyH_take (i := 4) (oi := _) (v := ?_) rfl (by kernel_rfl) (by kernel_rfl) (by kernel_rfl) (fun _ _ _ h => h) (Or.inl ⟨by rfl, ?_⟩) hS ?_
    rotate_left
    · (intro w hSw; (try dsimp only at hSw); go_simp; (try with_reducible rfl))
    rotate_left
    simp only [Act.put, List.getElem_toArray, List.getElem_cons_zero, List.getElem_cons_succ, List.setIfInBounds_toArray, List.set_cons_zero, List.set_cons_succ]
    refine wpAnyH_take (i := 5) (oi := _) (v := ?_) rfl (by kernel_rfl) (by kernel_rfl) (by kernel_rfl) (fun _ _ _ h => h) (Or.inl ⟨by rfl, ?_⟩) hS ?_
    rotate_left
    · (intro w hSw; (try dsimp only at hSw); go_simp; (try with_reducible rfl))
    rotate_left
    simp only [Act.put, List.getElem_toArray, List.getElem_cons_zero, List.getElem_cons_succ, List.setIfInBounds_toArray, List.set_cons_zero, List.set_cons_succ]
    refine wpAnyH_take (i := 6) (oi := _) (v := ?_) rfl (by kernel_rfl) (by kernel_rfl) (by kernel_rfl) (fun _ _ _ h => h) (Or.inl ⟨by rfl, ?_⟩) hS ?_
    rotate_left
    · (intro w hSw; (try dsimp only at hSw); go_simp; (try with_reducible rfl))
    rotate_left
    simp only [Act.put, List.getElem_toArray, List.getElem_cons_zero, List.getElem_cons_succ, List.setIfInBounds_toArray, List.set_cons_zero, List.set_cons_succ]
    refine wpAnyH_take (i := 7) (oi := _) (v := ?_) rfl (by kernel_rfl) (by kernel_rfl) (by kernel_rfl) (fun _ _ _ h => h) (Or.inl ⟨by rfl, ?_⟩) hS ?_
    rotate_left
    · (intro w hSw; (try dsimp only at hSw); go_simp; (try with_reducible rfl))
    rotate_left
    simp only [Act.put, List.getElem_toArray, List.getElem_cons_zero, List.getElem_cons_succ, List.setIfInBounds_toArray, List.set_cons_zero, List.set_cons_succ]
    refine wpAnyH_take (i := 8) (oi := _) (v := ?_) rfl (by kernel_rfl) (by kernel_rfl) (by kernel_rfl) (fun _ _ _ h => h) (Or.inl ⟨by rfl, ?_⟩) hS ?_
    rotate_left
    · (intro w hSw; have sq := run_string_bs (P := Try.prog) ca 26 9 5 Try.underlying26 Try.underlying5 Try.underlying9 hSw.2.1; (try dsimp only at hSw); go_simp; (try with_reducible rfl))
    rotate_left
    simp only [Act.put, List.getElem_toArray, List.getElem_cons_zero, List.getElem_cons_succ, List.setIfInBounds_toArray, List.set_cons_zero, List.set_cons_succ]
    refine wpAnyH_take (i := 9) (oi := _) (v := ?_) rfl (by kernel_rfl) (by kernel_rfl) (by kernel_rfl) (fun _ _ _ h => h) (Or.inl ⟨by rfl, ?_⟩) hS ?_
    rotate_left
    · (intro w hSw; (try dsimp only at hSw); go_simp; (try with_reducible rfl))
    rotate_left
    simp only [Act.put, List.getElem_toArray, List.getElem_cons_zero, List.getElem_cons_succ, List.setIfInBounds_toArray, List.set_cons_zero, List.set_cons_succ]
    refine wpAnyH_take (i := 10) (oi := _) (v := ?_) rfl (by kernel_rfl) (by kernel_rfl) (by kernel_rfl) (fun _ _ _ h => h) (Or.inl ⟨by rfl, ?_⟩) hS ?_
    rotate_left
    · (intro w hSw; have sq := run_string_bs (P := Try.prog) cb 26 9 5 Try.underlying26 Try.underlying5 Try.underlying9 hSw.2.2.1; (try dsimp only at hSw); go_simp; (try with_reducible rfl))
    rotate_left
    simp only [Act.put, List.getElem_toArray, List.getElem_cons_zero, List.getElem_cons_succ, List.setIfInBounds_toArray, List.set_cons_zero, List.set_cons_succ]
    refine wpAnyH_take (i := 11) (oi := _) (v := ?_) rfl (by kernel_rfl) (by kernel_rfl) (by kernel_rfl) (fun _ _ _ h => h) (Or.inl ⟨by rfl, ?_⟩) hS ?_
    rotate_left
    · (intro w hSw; (try dsimp only at hSw); go_simp; (try with_reducible rfl))
    rotate_left
    simp only [Act.put, List.getElem_toArray, List.getElem_cons_zero, List.getElem_cons_succ, List.setIfInBounds_toArray, List.set_cons_zero, List.set_cons_succ]
    refine wpAnyH_take (i := 12) (oi := _) (v := ?_) rfl (by kernel_rfl) (by kernel_rfl) (by kernel_rfl) (fun _ _ _ h => h) (Or.inl ⟨by rfl, ?_⟩) hS ?_
    rotate_left
    · (intro w hSw; (try dsimp only at hSw); go_simp; (try with_reducible rfl))
    rotate_left
    simp only [Act.put, List.getElem_toArray, List.getElem_cons_zero, List.getElem_cons_succ, List.setIfInBounds_toArray, List.set_cons_zero, List.set_cons_succ]
    refine wpAnyH_take (i := 13) (oi := _) (v := ?_) rfl (by kernel_rfl) (by kernel_rfl) (by kernel_rfl) (fun _ _ _ h => h) (Or.inl ⟨by rfl, ?_⟩) hS ?_
    rotate_left
    · (intro w hSw; (try dsimp only at hSw); go_simp; (try with_reducible rfl))
    rotate_left
    simp only [Act.put, List.getElem_toArray, List.getElem_cons_zero, List.getElem_cons_succ, List.setIfInBounds_toArray, List.set_cons_zero, List.set_cons_succ]
    refine wpAnyH_take (i := 14) (oi := _) (v := .bool b) rfl (by kernel_rfl) (by kernel_rfl) (by kernel_rfl) (fun _ _ _ h => h) (Or.inl ⟨by rfl, ?_⟩) hS ?_
    · (intro w hSw; (try dsimp only at hSw); go_simp; rw [← HEQ.out]; clear HEQ hS hSw; (repeat' split) <;> simp [*])
    simp only [Act.put, List.getElem_toArray, List.getElem_cons_zero, List.getElem_cons_succ, List.setIfInBounds_toArray, List.set_cons_zero, List.set_cons_succ]
    refine wpAnyH_take (i := 15) (oi := _) (v := ?_) rfl (by kernel_rfl) (by kernel_rfl) (by kernel_rfl) (fun _ _ _ h => h) (Or.inl ⟨by rfl, ?_⟩) hS ?_
    rotate_left
    · (intro w hSw; (try dsimp only at hSw); go_simp; (try with_reducible rfl))
    rotate_left
    simp only [Act.put, List.getElem_toArray, List.getElem_cons_zero, List.getElem_cons_succ, List.setIfInBounds_toArray, List.set_cons_zero, List.set_cons_succ]
    refine wpAnyH_take (i := 16) (oi := _) (v := ?_) rfl (by kernel_rfl) (by kernel_rfl) (by kernel_rfl) (fun _ _ _ h => h) (Or.inl ⟨by rfl, ?_⟩) hS ?_
    rotate_left
    · (intro w hSw; (try dsimp only at hSw); go_simp; (try with_reducible rfl))
    rotate_left
    simp only [Act.put, List.getElem_toArray, List.getElem_cons_zero, List.getElem_cons_succ, List.setIfInBounds_toArray, List.set_cons_zero, List.set_cons_succ]
    refine wpAnyH_done (by kernel_rfl) ?_ _
    have t5 := hS.1
    have hp5 := hS.2.1
    have L5 := hS.2.2.2.2.2.2.2
    clear hS
    go_wp2_with fail
    refine (H3.out _ _ _ _ hp5).mono ?_
    rintro e w5 ⟨rfl, b5⟩
    have L6 := (L5.next b5).alloc (.cells #[.int .u32 0, .int .u32 0, .int .i64 0, .int .i64 0, .int .i64 0, .int .i64 0, .int .i64 0, .int .i64 0, .int .i64 0, .bool false] 44)
    have t6 := Ext.alloc (Ext.trans t5 b5) (.cells #[.int .u32 0, .int .u32 0, .int .i64 0, .int .i64 0, .int .i64 0, .int .i64 0, .int .i64 0, .int .i64 0, .int .i64 0, .bool false] 44)
    have x6 := L6.cell
    clear t5 L5 hp5 b5 L6
    go_wp2_with fail
    refine (H4.out _).mono ?_
    rintro e w7 ⟨P7, k7, c7, rfl, hp7, b7⟩
    have t7 := Ext.trans t6 b7
    clear t6 b7 x6
    rcases HL.out with hG | ⟨rfl, h5⟩
    · go_wp2
      go_ret
      exact ⟨rfl, t7⟩
    · go_wp2_with fail
      refine (h5 _ _ _ _ hp7).mono ?_
      rintro e w8 ⟨rfl, b8⟩
      have t8 := Ext.alloc (Ext.trans t7 b8) (.cells #[.int .u32 0, .int .u32 0, .int .u32 0, .int .i64 0] 24)
      clear t7 b8 hp7
      go_wp2
      go_ret
      exact ⟨rfl, t8⟩

theorem sup_head (id age sq t : Nat) : (supBlock id age sq t).getD 0 0 = 83 := by
  unfold supBlock
  rw [sealL_getD _ (supPad_len id age sq t) 0 (by decide), pad_getD]
  rfl
theorem lab_head (id ev m c r l me lo dn : Nat) (op : Bool) : (labBlock id ev m c r l me lo dn op).getD 0 0 = 76 := by
  unfold labBlock rowsBlock
  rw [sealL_getD _ (pad_len (by rw [bytesL_len, labRows_size]; decide)) 0 (by decide), pad_getD]
  rfl
theorem sup_nolab (A : Option Addr) (n q : Nat) (id age sq t : Nat) (w : World) (hb : Bs w A n (supBlock id age sq t)) :
    Calls Try.prog 17 #[.slice A n q] w fun e w' => e = .returned (.tuple #[.agg #[.int .u32 0, .int .u32 0, .int .i64 0, .int .i64 0, .int .i64 0, .int .i64 0, .int .i64 0, .int .i64 0, .int .i64 0, .bool false], .int .i64 90]) ∧ Below w.heap.size w w' := by
  refine lread_no (.inr (by rw [← hb.1]; exact supBlock_len _ _ _ _)) ?_ A q w hb
  intro i1 i2 i3 i4 i5 i6 i7 i8 i9 i10 h
  have h1 := lab_head i1 i2 i3 i4 i5 i6 i7 i8 i9 i10
  rw [h.bs, sup_head] at h1
  exact absurd h1 (by decide)
theorem lab_nosup (A : Option Addr) (n q : Nat) (id ev m c r l me lo dn : Nat) (op : Bool) (w : World) (hb : Bs w A n (labBlock id ev m c r l me lo dn op)) :
    Calls Try.prog 13 #[.slice A n q] w fun e w' => e = .returned (.tuple #[.agg #[.int .u32 0, .int .u32 0, .int .u32 0, .int .i64 0], .int .i64 90]) ∧ Below w.heap.size w w' := by
  rcases read_block A n q _ (.inr (by rw [← hb.1]; exact labBlock_len _ _ _ _ _ _ _ _ _ _)) w hb with ⟨j1, j2, j3, j4, h, _⟩ | ⟨_, hc⟩
  · have h1 := sup_head j1 j2 j3 j4
    rw [h.2.2, lab_head] at h1
    exact absurd h1 (by decide)
  · exact hc
theorem lab_open' {w : World} {cs : List Value} {y : (Ty.st (.prod .u32 (.prod .u32 (.prod .int (.prod .int (.prod .int (.prod .int (.prod .int (.prod .int (.prod .int (.prod .bool .unit))))))))))).T} (h : Reads w (Ty.st (.prod .u32 (.prod .u32 (.prod .int (.prod .int (.prod .int (.prod .int (.prod .int (.prod .int (.prod .int (.prod .bool .unit))))))))))) y cs) : ∃ x : Lab, Value.agg cs.toArray = .agg x.cells ∧ x.id < 4294967296 ∧ x.ev < 4294967296 := by
  obtain ⟨id, ev, m, c, r, l, me, lost, dn, op, u⟩ := y
  obtain ⟨c0, d0, rfl, r0, h⟩ := reads_prod.1 (reads_st.1 h)
  obtain ⟨c1, d1, rfl, r1, h⟩ := reads_prod.1 h
  obtain ⟨c2, d2, rfl, r2, h⟩ := reads_prod.1 h
  obtain ⟨c3, d3, rfl, r3, h⟩ := reads_prod.1 h
  obtain ⟨c4, d4, rfl, r4, h⟩ := reads_prod.1 h
  obtain ⟨c5, d5, rfl, r5, h⟩ := reads_prod.1 h
  obtain ⟨c6, d6, rfl, r6, h⟩ := reads_prod.1 h
  obtain ⟨c7, d7, rfl, r7, h⟩ := reads_prod.1 h
  obtain ⟨c8, d8, rfl, r8, h⟩ := reads_prod.1 h
  obtain ⟨c9, d9, rfl, r9, h⟩ := reads_prod.1 h
  obtain rfl := reads_unit.1 h
  obtain ⟨rfl, i0⟩ := reads_u32.1 r0
  obtain ⟨rfl, i1⟩ := reads_u32.1 r1
  obtain ⟨rfl, _⟩ := reads_int.1 r2
  obtain ⟨rfl, _⟩ := reads_int.1 r3
  obtain ⟨rfl, _⟩ := reads_int.1 r4
  obtain ⟨rfl, _⟩ := reads_int.1 r5
  obtain ⟨rfl, _⟩ := reads_int.1 r6
  obtain ⟨rfl, _⟩ := reads_int.1 r7
  obtain ⟨rfl, _⟩ := reads_int.1 r8
  obtain rfl := reads_bool.1 r9
  exact ⟨⟨id, ev, m, c, r, l, me, lost, dn, op⟩, rfl, i0, i1⟩

theorem sup_write_any (id age sq : Nat) (t : Int) (hi : id < 4294967296) (ha : age < 4294967296) (hs : sq < 4294967296) : ∃ (E : Int) (ws : List UInt8), ∀ W, Calls Try.prog 10 #[.agg #[.int .u32 (id : Int), .int .u32 (age : Int), .int .u32 (sq : Int), .int .i64 t]] W fun e w' => ∃ P k c, e = .returned (.tuple #[.slice P k c, .int .i64 E]) ∧ Bs w' P k ws ∧ Below W.heap.size W w' := by
  by_cases hok : SupOk age sq t
  · obtain ⟨t, rfl⟩ : ∃ n : Nat, t = (n : Int) := ⟨t.toNat, by have := hok.2.2.1; omega⟩
    exact ⟨0, _, fun W => (pwrite_ok id age sq t hi ha hs hok W).mono fun e w' ⟨g, he, _, hB, hbl⟩ => (⟨_, _, _, he, hB.bs, hbl⟩ : ∃ P k c, e = Ending.returned (.tuple #[.slice P k c, .int .i64 0]) ∧ Bs w' P k _ ∧ Below W.heap.size W w')⟩
  · exact ⟨8, [], fun W => (pwrite_bad id age sq t ha hs hok W).mono fun e w' ⟨he, hbl⟩ => (⟨_, _, _, he, Bs.nil _ _, hbl⟩ : ∃ P k c, e = Ending.returned (.tuple #[.slice P k c, .int .i64 8]) ∧ Bs w' P k [] ∧ Below W.heap.size W w')⟩

theorem sunlike_all (id age sq : Nat) (t : Int) (hi : id < 4294967296) (ha : age < 4294967296) (hs : sq < 4294967296) (id' age' sq' : Nat) (t' : Int) (hi' : id' < 4294967296) (ha' : age' < 4294967296) (hs' : sq' < 4294967296) (x : Lab) (hx : x.id < 4294967296) (w : World) :
    Calls Try.prog 8 #[.agg #[.int .u32 (id : Int), .int .u32 (age : Int), .int .u32 (sq : Int), .int .i64 t], .agg #[.int .u32 (id' : Int), .int .u32 (age' : Int), .int .u32 (sq' : Int), .int .i64 t'], .agg x.cells] w fun e w' => e = .returned (.bool true) ∧ Below w.heap.size w w' := by
  obtain ⟨G, vs, h4, hL⟩ : ∃ (G : Int) (vs : List UInt8), (∀ W, Calls Try.prog 18 #[.agg x.cells] W fun e w' => ∃ P k c, e = .returned (.tuple #[.slice P k c, .int .i64 G]) ∧ Bs w' P k vs ∧ Below W.heap.size W w') ∧
      (((G != 0) = true) ∨ (G = 0 ∧ ∀ A n q W, Bs W A n vs → Calls Try.prog 13 #[.slice A n q] W fun e w' => e = .returned (.tuple #[.agg #[.int .u32 0, .int .u32 0, .int .u32 0, .int .i64 0], .int .i64 90]) ∧ Below W.heap.size W w')) := by
    by_cases h2 : x.Ok
    · obtain ⟨id', ev', m', c', r', l', me', lo', dn', op', rfl, _, _⟩ := lab_nat x h2
      exact ⟨0, _, fun W => (lwrite_ok _ ev' m' c' r' l' me' lo' dn' op' hx h2 W).mono fun e w' ⟨g, he, _, hB, hbl⟩ => (⟨_, _, _, he, hB.bs, hbl⟩ : ∃ P k c, e = Ending.returned (.tuple #[.slice P k c, .int .i64 0]) ∧ Bs w' P k _ ∧ Below W.heap.size W w'), .inr ⟨rfl, fun A n q W hb => lab_nosup A n q _ _ _ _ _ _ _ _ _ _ W hb⟩⟩
    · exact ⟨8, [], fun W => (lwrite_bad x h2 W).mono fun e w' ⟨he, hbl⟩ => (⟨_, _, _, he, Bs.nil _ _, hbl⟩ : ∃ P k c, e = Ending.returned (.tuple #[.slice P k c, .int .i64 8]) ∧ Bs w' P k [] ∧ Below W.heap.size W w'), .inl rfl⟩
  have core := fun E F ws us b h1 h2 hc => sunlike_core id age sq t id' age' sq' t' x.id x.ev x.m x.c x.r x.l x.me x.lost x.dn x.op E F G ws us vs b h1 h2 h4 hL hc w
  by_cases hok : SupOk age sq t
  · obtain ⟨t, rfl⟩ : ∃ n : Nat, t = (n : Int) := ⟨t.toNat, by have := hok.2.2.1; omega⟩
    have k1 := fun W => (pwrite_ok id age sq t hi ha hs hok W).mono fun e w' ⟨g, he, _, hB, hbl⟩ => (⟨_, _, _, he, hB.bs, hbl⟩ : ∃ P k c, e = Ending.returned (.tuple #[.slice P k c, .int .i64 0]) ∧ Bs w' P k _ ∧ Below W.heap.size W w')
    by_cases hok' : SupOk age' sq' t'
    · obtain ⟨t', rfl⟩ : ∃ n : Nat, t' = (n : Int) := ⟨t'.toNat, by have := hok'.2.2.1; omega⟩
      have k2 := fun W => (pwrite_ok id' age' sq' t' hi' ha' hs' hok' W).mono fun e w' ⟨g, he, _, hB, hbl⟩ => (⟨_, _, _, he, hB.bs, hbl⟩ : ∃ P k c, e = Ending.returned (.tuple #[.slice P k c, .int .i64 0]) ∧ Bs w' P k _ ∧ Below W.heap.size W w')
      refine core 0 0 _ _ _ k1 k2 (.inr ⟨rfl, fun A n q W hb => sup_nolab A n q _ _ _ _ W hb, .inr ⟨rfl, ?_, rfl⟩⟩)
      rw [Bool.eq_iff_iff, beq_iff_eq, decide_eq_true_eq]
      constructor
      · intro h
        have o1 := read_own id age sq t hi ha hs hok
        have o2 := read_own id' age' sq' t' hi' ha' hs' hok'
        rw [h] at o1
        obtain ⟨rfl, rfl, rfl, rfl⟩ := read_one o1 o2
        simp
      · rintro ⟨a1, a2, a3, a4⟩
        have b1 : id = id' := by omega
        have b2 : age = age' := by omega
        have b3 : sq = sq' := by omega
        have b4 : t = t' := by omega
        rw [b1, b2, b3, b4]
    · have k2 := fun W => (pwrite_bad id' age' sq' t' ha' hs' hok' W).mono fun e w' ⟨he, hbl⟩ => (⟨_, _, _, he, Bs.nil _ _, hbl⟩ : ∃ P k c, e = Ending.returned (.tuple #[.slice P k c, .int .i64 8]) ∧ Bs w' P k [] ∧ Below W.heap.size W w')
      exact core 0 8 _ _ true k1 k2 (.inr ⟨rfl, fun A n q W hb => sup_nolab A n q _ _ _ _ W hb, .inl rfl⟩)
  · have k1 := fun W => (pwrite_bad id age sq t ha hs hok W).mono fun e w' ⟨he, hbl⟩ => (⟨_, _, _, he, Bs.nil _ _, hbl⟩ : ∃ P k c, e = Ending.returned (.tuple #[.slice P k c, .int .i64 8]) ∧ Bs w' P k [] ∧ Below W.heap.size W w')
    obtain ⟨F, us, k2⟩ := sup_write_any id' age' sq' t' hi' ha' hs'
    exact core 8 F [] us true k1 k2 (.inl rfl)

theorem superUnlike_walk (w : World) (cs : List Value) (y : (Ty.st (.prod .u32 (.prod .u32 (.prod .u32 (.prod .int .unit))))).T) (h0 : Reads w (Ty.st (.prod .u32 (.prod .u32 (.prod .u32 (.prod .int .unit))))) y cs) (ds : List Value) (z : (Ty.st (.prod .u32 (.prod .u32 (.prod .u32 (.prod .int .unit))))).T) (h1 : Reads w (Ty.st (.prod .u32 (.prod .u32 (.prod .u32 (.prod .int .unit))))) z ds) (es : List Value) (x : (Ty.st (.prod .u32 (.prod .u32 (.prod .int (.prod .int (.prod .int (.prod .int (.prod .int (.prod .int (.prod .int (.prod .bool .unit))))))))))).T) (h2 : Reads w (Ty.st (.prod .u32 (.prod .u32 (.prod .int (.prod .int (.prod .int (.prod .int (.prod .int (.prod .int (.prod .int (.prod .bool .unit))))))))))) x es) :
    Calls Try.prog 8 #[.agg cs.toArray, .agg ds.toArray, .agg es.toArray] w fun e w' => e = .returned (.bool true) ∧ Below w.heap.size w w' := by
  obtain ⟨id, age, sq, t, hv, hi, ha, hs, _⟩ := sup_open h0
  obtain ⟨id', age', sq', t', hv', hi', ha', hs', _⟩ := sup_open h1
  obtain ⟨x, hx, i1, _⟩ := lab_open' h2
  rw [hv, hv', hx]
  exact sunlike_all id age sq t hi ha hs id' age' sq' t' hi' ha' hs' x i1 w
end Go.Proofs.Ytgmlhfencidahaa
