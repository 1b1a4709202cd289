/- Layer 10 (super): the reference's Write and Read. -/
import Derived.Test.YtgmlhfencidahaaSuperRef2
import Derived.Test.YtgmlhfencidahaaSuperPlain
import Derived.Deep.DeepCutAuto
namespace Go.Proofs.Ytgmlhfencidahaa
open Go Go.RowKit
set_option linter.unusedSimpArgs false
set_option linter.unusedVariables false

theorem rswrite_bad (id age sq : Nat) (t : Int) (h : ¬ SupOk age sq t) (w : World) :
    Calls Try.prog 14 #[.agg #[.int .u32 (id : Int), .int .u32 (age : Int), .int .u32 (sq : Int), .int .i64 t]] w fun e w' => e = .returned (.tuple #[.slice none 0 0, .int .i64 8]) ∧ Below w.heap.size w w' := by
  have HM := Lib.hid (rsmay_bad id age sq t h)
  clear h
  go_enter Try.func14, Try.ntmps14
  go_wp2_with fail
  have t0 := Ext.alloc (Below.refl w.heap.size w) (.cells #[.int .u32 (id : Int), .int .u32 (age : Int), .int .u32 (sq : Int), .int .i64 t] 24)
  refine (HM.out _).mono ?_
  rintro e w1 ⟨rfl, b1⟩
  go_wp2
  go_ret2
  exact ⟨rfl, Ext.trans t0 b1⟩
theorem rswrite_ok (id age sq t : Nat) (hi : id < 4294967296) (ha : age < 4294967296) (hs : sq < 4294967296) (h : SupOk age sq (t : Int)) (w : World) :
    Calls Try.prog 14 #[.agg #[.int .u32 (id : Int), .int .u32 (age : Int), .int .u32 (sq : Int), .int .i64 (t : Int)]] w fun e w' => ∃ A c, e = .returned (.tuple #[.slice A 128 c, .int .i64 0]) ∧ Bs w' A 128 (supBlock id age sq t) ∧ Below w.heap.size w w' := by
  have HM := Lib.hid (rsmay_ok id age sq t h)
  have ht : t < 256 := by have := h.2.2.2; omega
  have HB := Lib.hid (rsblock_any id age sq t hi ha hs ht)
  clear h hi ha hs ht
  go_enter Try.func14, Try.ntmps14
  go_wp2_with fail
  have A0 := BoxOf.new w #[.int .u32 (id : Int), .int .u32 (age : Int), .int .u32 (sq : Int), .int .i64 (t : Int)] 24
  have t0 := Ext.alloc (Below.refl w.heap.size w) (.cells #[.int .u32 (id : Int), .int .u32 (age : Int), .int .u32 (sq : Int), .int .i64 (t : Int)] 24)
  refine (HM.out _).mono ?_
  rintro e w1 ⟨rfl, b1⟩
  have A1 := A0.next b1
  have t1 := Ext.trans t0 b1
  have x1 := A1.cell
  clear A0 t0 b1
  go_wp2_with fail
  refine (HB.out _).mono ?_
  rintro e w2 ⟨A, c, rfl, hb, b2⟩
  go_wp2
  go_ret2
  exact ⟨_, _, rfl, hb, Ext.trans t1 b2⟩

theorem rsread_text (A : Option Addr) (n q : Nat) (h0 : n ≠ 0) (h1 : n ≠ 128) (w : World) :
    Calls Try.prog 15 #[.slice A n q] w fun e w' => e = .returned (.tuple #[.agg #[.int .u32 0, .int .u32 0, .int .u32 0, .int .i64 0], .int .i64 3]) ∧ Below w.heap.size w w' := by
  have HB := Lib.hid (block_bad A n q h0 h1)
  clear h0 h1
  go_enter Try.func15, Try.ntmps15
  go_wp2_with fail
  have A0 := BoxOf.new w #[.int .u32 0, .int .u32 0, .int .u32 0, .int .i64 0] 24
  have t0 := Ext.alloc (Below.refl w.heap.size w) (.cells #[.int .u32 0, .int .u32 0, .int .u32 0, .int .i64 0] 24)
  refine (HB.out _).mono ?_
  rintro e w1 ⟨rfl, rfl⟩
  have B := Lib.hid A0
  clear A0
  go_wp2_with (refine wpList_store_rowTo rfl 24 (.tmp 2) (.tmp 9) rfl rfl w.heap.size #[.int .u32 0, .int .u32 0, .int .u32 0, .int .i64 0] rfl rfl 24 #[.int .u32 0, .int .u32 0, .int .u32 0, .int .i64 0] B.out (by kernel_rfl) rfl (by kernel_rfl) ?_)
  exact bodyPost_ret (v := .tuple #[.agg #[.int .u32 0, .int .u32 0, .int .u32 0, .int .i64 0], .int .i64 3]) (Eq.trans (results_row2 (P := Try.prog) (fn := Try.f15) (p := 2) (u := 3) (ty := 24) rfl _ _ w.heap.size 24 #[.int .u32 0, .int .u32 0, .int .u32 0, .int .i64 0] (0, 0) _ rfl (B.out.set _) Try.underlying24 rfl (by kernel_rfl)) rfl) rfl ⟨rfl, Ext.setRow t0 (Nat.le_refl _) _⟩

set_option maxRecDepth 100000 in
set_option maxHeartbeats 2000000 in
theorem rsread_core (A : Option Addr) (n q : Nat) (bs : List UInt8) (hn : n = 0 ∨ n = 128) (L : List UInt8) (hL : wholeL bs = L) (w : World) (hb : Bs w A n bs) (id age sq tl : Nat) (h1 : id = takeN L 1 4) (h2 : age = takeN L 5 4) (h3 : sq = takeN L 9 4) (h4 : tl = takeN L 13 1)
    (R : Array Value) (C : Int) (hR' : (¬ SupOk age sq (tl : Int) ∧ R = #[.int .u32 0, .int .u32 0, .int .u32 0, .int .i64 0] ∧ C = 90) ∨ (SupOk age sq (tl : Int) ∧ supBlock id age sq tl ≠ L ∧ R = #[.int .u32 0, .int .u32 0, .int .u32 0, .int .i64 0] ∧ C = 90) ∨ (SupOk age sq (tl : Int) ∧ supBlock id age sq tl = L ∧ R = supV id age sq tl ∧ C = 0)) :
    Calls Try.prog 15 #[.slice A n q] w fun e w' => e = .returned (.tuple #[.agg R, .int .i64 C]) ∧ Below w.heap.size w w' := by
  have HB := Lib.hid (block_ok A n q hn)
  have HW := Lib.hid (fun W hW => rwhole_ok A n q bs hn W hW)
  have hL8 : L.length = 128 := by rw [← hL]; exact wholeL_len rfl (by rw [hb.1]; exact hn)
  rw [hL] at HW
  have hN : ∀ (g p : Nat) (W : World), p + 4 ≤ 128 → Bs W (some ⟨g, 0, none⟩) 128 L → Calls Try.prog 27 #[.slice (some ⟨g, 0, none⟩) 128 128, .int .i64 p] W fun e w' => e = .returned (.int .u32 (takeN L p 4)) ∧ Below W.heap.size W w' := by
    intro g p W hp hW
    have := rnum_any (some ⟨g, 0, none⟩) 128 128 L (.inr rfl) p hp W hW
    rw [wholeL_full hL8] at this
    exact this
  have n1 : ∀ (g : Nat) (W : World), Bs W (some ⟨g, 0, none⟩) 128 L → Calls Try.prog 27 #[.slice (some ⟨g, 0, none⟩) 128 128, .int .i64 1] W fun e w' => e = .returned (.int .u32 (takeN L 1 4)) ∧ Below W.heap.size W w' := fun g W h => hN g 1 W (by decide) h
  have n2 : ∀ (g : Nat) (W : World), Bs W (some ⟨g, 0, none⟩) 128 L → Calls Try.prog 27 #[.slice (some ⟨g, 0, none⟩) 128 128, .int .i64 5] W fun e w' => e = .returned (.int .u32 (takeN L 5 4)) ∧ Below W.heap.size W w' := fun g W h => hN g 5 W (by decide) h
  have n3 : ∀ (g : Nat) (W : World), Bs W (some ⟨g, 0, none⟩) 128 L → Calls Try.prog 27 #[.slice (some ⟨g, 0, none⟩) 128 128, .int .i64 9] W fun e w' => e = .returned (.int .u32 (takeN L 9 4)) ∧ Below W.heap.size W w' := fun g W h => hN g 9 W (by decide) h
  rw [← h1] at n1
  rw [← h2] at n2
  rw [← h3] at n3
  have N1 := Lib.hid n1
  have N2 := Lib.hid n2
  have N3 := Lib.hid n3
  have h13 : (L.getD 13 0).toNat = tl := by rw [h4, takeN_one]
  have HR := Lib.hid hR'
  have i1 : id < 4294967296 := by rw [h1]; exact takeN_lt _ 1 4
  have i2 : age < 4294967296 := by rw [h2]; exact takeN_lt _ 5 4
  have i3 : sq < 4294967296 := by rw [h3]; exact takeN_lt _ 9 4
  have i4 : tl < 256 := by rw [h4]; exact takeN_lt _ 13 1
  have I := Lib.hid (And.intro i1 (And.intro i2 (And.intro i3 i4)))
  clear hN n1 n2 n3 h1 h2 h3 h4 hR' hL hn i1 i2 i3 i4
  go_enter Try.func15, Try.ntmps15
  go_wp2_with fail
  have A0 := BoxOf.new w #[.int .u32 0, .int .u32 0, .int .u32 0, .int .i64 0] 24
  have hb0 := hb.alloc (.cells #[.int .u32 0, .int .u32 0, .int .u32 0, .int .i64 0] 24)
  have t0 := Ext.alloc (Below.refl w.heap.size w) (.cells #[.int .u32 0, .int .u32 0, .int .u32 0, .int .i64 0] 24)
  generalize w.alloc (.cells #[.int .u32 0, .int .u32 0, .int .u32 0, .int .i64 0] 24) = w0 at *
  refine (HB.out _).mono ?_
  rintro e w1 ⟨rfl, rfl⟩
  go_wp2_with fail
  refine (HW.out _ hb0).mono ?_
  rintro e w2 ⟨g, rfl, hg, ho, b2⟩
  have A2 := A0.next b2
  have t2 := Ext.trans t0 b2
  have c13 := ho.cell 13 (by decide)
  rw [h13] at c13
  have hbL := ho.bs
  clear A0 hb0 t0 b2 ho h13
  go_upto_region 4 with fail
  have I2 := I.out
  go_cut [5] (fun s5 wx => ∃ gx, s5 = .pointer (some ⟨gx, 0, none⟩) ∧ w.heap.size < gx ∧ BoxOf wx gx #[.int .u32 (id : Int), .int .u32 (age : Int), .int .u32 (sq : Int), .int .i64 (tl : Int)] 24 ∧ BoxOf wx w.heap.size #[.int .u32 0, .int .u32 0, .int .u32 0, .int .i64 0] 24 ∧ Bs wx (some ⟨g, 0, none⟩) 128 L ∧ Below w.heap.size w wx)
  case first =>
    refine wp_region_held_drew (S := fun w' => Below w.heap.size w w' ∧ Bs w' (some ⟨g, 0, none⟩) 128 L ∧ BoxOf w' w.heap.size #[.int .u32 0, .int .u32 0, .int .u32 0, .int .i64 0] 24 ∧ w'.cell? ⟨g, 13, none⟩ = some (.int .u8 (tl : Int))) (by kernel_rfl) ⟨Ext.drew t2, hbL, A2.drew, c13⟩ (fun hS => ?_)
    clear t2 hbL A2 c13
    generalize w2.drew = v at hS ⊢
    have q4 : IntKind.i64.wrap (tl : Int) = (tl : Int) := i64_fit (by omega)
    refine wpAnyH_take (i := 0) (oi := _) (v := ?_) rfl (by kernel_rfl) (by kernel_rfl) (by kernel_rfl) (fun _ _ _ h => h) (Or.inl ⟨by rfl, ?_⟩) hS ?_
    rotate_left
    · (intro w hSw; (try dsimp only at hSw); go_simp; (try with_reducible rfl))
    rotate_left
    simp only [Act.put, List.getElem_toArray, List.getElem_cons_zero, List.getElem_cons_succ, List.setIfInBounds_toArray, List.set_cons_zero, List.set_cons_succ]
    refine wpAnyH_take (i := 2) (oi := _) (v := ?_) rfl (by kernel_rfl) (by kernel_rfl) (by kernel_rfl) (fun _ _ _ h => h) (Or.inl ⟨by rfl, ?_⟩) hS ?_
    rotate_left
    · (intro w hSw; (try dsimp only at hSw); go_simp; (try with_reducible rfl))
    rotate_left
    simp only [Act.put, List.getElem_toArray, List.getElem_cons_zero, List.getElem_cons_succ, List.setIfInBounds_toArray, List.set_cons_zero, List.set_cons_succ]
    refine wpAnyH_take (i := 4) (oi := _) (v := ?_) rfl (by kernel_rfl) (by kernel_rfl) (by kernel_rfl) (fun _ _ _ h => h) (Or.inl ⟨by rfl, ?_⟩) hS ?_
    rotate_left
    · (intro w hSw; (try dsimp only at hSw); go_simp; (try with_reducible rfl))
    rotate_left
    simp only [Act.put, List.getElem_toArray, List.getElem_cons_zero, List.getElem_cons_succ, List.setIfInBounds_toArray, List.set_cons_zero, List.set_cons_succ]
    refine wpAnyH_take (i := 6) (oi := _) (v := ?_) rfl (by kernel_rfl) (by kernel_rfl) (by kernel_rfl) (fun _ _ _ h => h) (Or.inl ⟨by rfl, ?_⟩) hS ?_
    rotate_left
    · (intro w hSw; (try dsimp only at hSw); go_simp; (try with_reducible rfl))
    rotate_left
    simp only [Act.put, List.getElem_toArray, List.getElem_cons_zero, List.getElem_cons_succ, List.setIfInBounds_toArray, List.set_cons_zero, List.set_cons_succ]
    refine wpAnyH_take (i := 7) (oi := _) (v := ?_) rfl (by kernel_rfl) (by kernel_rfl) (by kernel_rfl) (fun _ _ _ h => h) (Or.inl ⟨by rfl, ?_⟩) hS ?_
    rotate_left
    · (intro w hSw; (try dsimp only at hSw); go_simp; (try with_reducible rfl))
    rotate_left
    simp only [Act.put, List.getElem_toArray, List.getElem_cons_zero, List.getElem_cons_succ, List.setIfInBounds_toArray, List.set_cons_zero, List.set_cons_succ]
    refine wpAnyH_take (i := 8) (oi := _) (v := ?_) rfl (by kernel_rfl) (by kernel_rfl) (by kernel_rfl) (fun _ _ _ h => h) (Or.inl ⟨by rfl, ?_⟩) hS ?_
    rotate_left
    · (intro w hSw; (try dsimp only at hSw); go_simp; (try with_reducible rfl))
    rotate_left
    simp only [Act.put, List.getElem_toArray, List.getElem_cons_zero, List.getElem_cons_succ, List.setIfInBounds_toArray, List.set_cons_zero, List.set_cons_succ]
    refine wpAnyH_take (i := 9) (oi := _) (v := ?_) rfl (by kernel_rfl) (by kernel_rfl) (by kernel_rfl) (fun _ _ _ h => h) (Or.inl ⟨by rfl, ?_⟩) hS ?_
    rotate_left
    · (intro w hSw; (try dsimp only at hSw); go_simp; (try with_reducible rfl))
    rotate_left
    simp only [Act.put, List.getElem_toArray, List.getElem_cons_zero, List.getElem_cons_succ, List.setIfInBounds_toArray, List.set_cons_zero, List.set_cons_succ]
    refine wpAnyH_ready (rs := [1, 11]) (by kernel_rfl) (by simp) ?_
    refine AllReadyH.cons rfl (fun K hK => ?_) (AllReadyH.cons rfl (fun K hK => ?_) AllReadyH.nil)
    · rw [if_pos (by rfl)]
      go_simp
      refine (N1.out _ _ hS.2.1).mono ?_
      rintro e v ⟨rfl, b5⟩
      refine hK.out _ _ ⟨Ext.trans hS.1 b5, hS.2.1.below b5, hS.2.2.1.next b5, (b5.cell (p := ⟨g, 13, none⟩) (block_lt_of_cell hS.2.2.2)).trans hS.2.2.2⟩ (fun hS' => ?_)
      clear b5
      clear hK K hS
      have hS := hS'
      clear hS'
      try simp only [Act.put, List.getElem_toArray, List.getElem_cons_zero, List.getElem_cons_succ, List.setIfInBounds_toArray, List.set_cons_zero, List.set_cons_succ]
      refine wpAnyH_ready (rs := [3, 11]) (by kernel_rfl) (by simp) ?_
      refine AllReadyH.cons rfl (fun K hK => ?_) (AllReadyH.cons rfl (fun K hK => ?_) AllReadyH.nil)
      · rw [if_pos (by rfl)]
        go_simp
        refine (N2.out _ _ hS.2.1).mono ?_
        rintro e v ⟨rfl, b5⟩
        refine hK.out _ _ ⟨Ext.trans hS.1 b5, hS.2.1.below b5, hS.2.2.1.next b5, (b5.cell (p := ⟨g, 13, none⟩) (block_lt_of_cell hS.2.2.2)).trans hS.2.2.2⟩ (fun hS' => ?_)
        clear b5
        clear hK K hS
        have hS := hS'
        clear hS'
        try simp only [Act.put, List.getElem_toArray, List.getElem_cons_zero, List.getElem_cons_succ, List.setIfInBounds_toArray, List.set_cons_zero, List.set_cons_succ]
        refine wpAnyH_ready (rs := [5, 11]) (by kernel_rfl) (by simp) ?_
        refine AllReadyH.cons rfl (fun K hK => ?_) (AllReadyH.cons rfl (fun K hK => ?_) AllReadyH.nil)
        · rw [if_pos (by rfl)]
          go_simp
          refine (N3.out _ _ hS.2.1).mono ?_
          rintro e v ⟨rfl, b5⟩
          refine hK.out _ _ ⟨Ext.trans hS.1 b5, hS.2.1.below b5, hS.2.2.1.next b5, (b5.cell (p := ⟨g, 13, none⟩) (block_lt_of_cell hS.2.2.2)).trans hS.2.2.2⟩ (fun hS' => ?_)
          clear b5
          clear hK K hS
          have hS := hS'
          clear hS'
          try simp only [Act.put, List.getElem_toArray, List.getElem_cons_zero, List.getElem_cons_succ, List.setIfInBounds_toArray, List.set_cons_zero, List.set_cons_succ]
          refine wpAnyH_take (i := 10) (oi := _) (v := ?_) rfl (by kernel_rfl) (by kernel_rfl) (by kernel_rfl) (fun _ _ _ h => h) (Or.inl ⟨by rfl, ?_⟩) hS ?_
          rotate_left
          · (intro w hSw; (try dsimp only at hSw); go_simp; (try with_reducible rfl))
          rotate_left
          simp only [Act.put, List.getElem_toArray, List.getElem_cons_zero, List.getElem_cons_succ, List.setIfInBounds_toArray, List.set_cons_zero, List.set_cons_succ]
          refine wpAnyH_ready (rs := [11]) (by kernel_rfl) (by simp) ?_
          refine AllReadyH.cons rfl (fun K hK => ?_) AllReadyH.nil
          rw [if_pos (by rfl)]
          go_simp
          have hgz : g < v.heap.size := block_lt_of_cell hS.2.2.2
          obtain ⟨gx, hgx⟩ : ∃ gx : Nat, gx = v.heap.size := ⟨_, rfl⟩
          have BX := BoxOf.new' v gx #[.int .u32 0, .int .u32 0, .int .u32 0, .int .i64 0] 24 hgx
          have hgw : w.heap.size < gx := by rw [hgx]; exact hS.2.2.1.lt
          have hgg : g < gx := by rw [hgx]; exact hgz
          refine hK.out _ _ ⟨Ext.alloc hS.1 _, hS.2.1.alloc _, hS.2.2.1.alloc _, ((Ext.alloc (Below.refl _ _) _).cell (p := ⟨g, 13, none⟩) hgz).trans hS.2.2.2⟩ (fun hS' => ?_)
          rw [← hgx]
          clear hgx hgz
          clear hK K hS
          have hS := hS'
          clear hS'
          try simp only [Act.put, List.getElem_toArray, List.getElem_cons_zero, List.getElem_cons_succ, List.setIfInBounds_toArray, List.set_cons_zero, List.set_cons_succ]
          generalize v.alloc (.cells #[.int .u32 0, .int .u32 0, .int .u32 0, .int .i64 0] 24) = v2 at BX hS ⊢
          refine wpAnyH_ready (rs := [12]) (by kernel_rfl) (by simp) ?_
          refine AllReadyH.cons rfl (fun K hK => ?_) AllReadyH.nil
          rw [if_pos (by rfl)]
          refine wp_store_row 24 (.tmp 5) (.tmp 22) rfl gx #[.int .u32 (id : Int), .int .u32 (age : Int), .int .u32 (sq : Int), .int .i64 (tl : Int)] rfl rfl 24 #[.int .u32 0, .int .u32 0, .int .u32 0, .int .i64 0] BX (by kernel_rfl) rfl (by kernel_rfl) ?_
          have BY := BX.set #[.int .u32 (id : Int), .int .u32 (age : Int), .int .u32 (sq : Int), .int .i64 (tl : Int)]
          refine hK.out _ _ ⟨Ext.setRow hS.1 (by omega) _, hS.2.1.other (by omega) _, hS.2.2.1.other (by omega) _, (cell_other _ _ _ (p := ⟨g, 13, none⟩) (show g ≠ gx by omega)).trans hS.2.2.2⟩ (fun hS' => ?_)
          clear hK K hS
          have hS := hS'
          clear hS'
          try simp only [Act.put, List.getElem_toArray, List.getElem_cons_zero, List.getElem_cons_succ, List.setIfInBounds_toArray, List.set_cons_zero, List.set_cons_succ]
          refine wpAnyH_done (by kernel_rfl) ?_ _
          go_wp2_with fail
          go_meet
          exact ⟨gx, rfl, hgw, BY, hS.2.2.1, hS.2.1, hS.1⟩
        · rw [if_pos (by rfl)]
          go_simp
          have hgz : g < v.heap.size := block_lt_of_cell hS.2.2.2
          obtain ⟨gx, hgx⟩ : ∃ gx : Nat, gx = v.heap.size := ⟨_, rfl⟩
          have BX := BoxOf.new' v gx #[.int .u32 0, .int .u32 0, .int .u32 0, .int .i64 0] 24 hgx
          have hgw : w.heap.size < gx := by rw [hgx]; exact hS.2.2.1.lt
          have hgg : g < gx := by rw [hgx]; exact hgz
          refine hK.out _ _ ⟨Ext.alloc hS.1 _, hS.2.1.alloc _, hS.2.2.1.alloc _, ((Ext.alloc (Below.refl _ _) _).cell (p := ⟨g, 13, none⟩) hgz).trans hS.2.2.2⟩ (fun hS' => ?_)
          rw [← hgx]
          clear hgx hgz
          clear hK K hS
          have hS := hS'
          clear hS'
          try simp only [Act.put, List.getElem_toArray, List.getElem_cons_zero, List.getElem_cons_succ, List.setIfInBounds_toArray, List.set_cons_zero, List.set_cons_succ]
          generalize v.alloc (.cells #[.int .u32 0, .int .u32 0, .int .u32 0, .int .i64 0] 24) = v2 at BX hS ⊢
          refine wpAnyH_ready (rs := [5]) (by kernel_rfl) (by simp) ?_
          refine AllReadyH.cons rfl (fun K hK => ?_) AllReadyH.nil
          rw [if_pos (by rfl)]
          go_simp
          refine (N3.out _ _ hS.2.1).mono ?_
          rintro e v ⟨rfl, b5⟩
          have BX' := BX.next b5
          clear BX
          have BX := BX'
          clear BX'
          refine hK.out _ _ ⟨Ext.trans hS.1 b5, hS.2.1.below b5, hS.2.2.1.next b5, (b5.cell (p := ⟨g, 13, none⟩) (block_lt_of_cell hS.2.2.2)).trans hS.2.2.2⟩ (fun hS' => ?_)
          clear b5
          clear hK K hS
          have hS := hS'
          clear hS'
          try simp only [Act.put, List.getElem_toArray, List.getElem_cons_zero, List.getElem_cons_succ, List.setIfInBounds_toArray, List.set_cons_zero, List.set_cons_succ]
          refine wpAnyH_take (i := 10) (oi := _) (v := ?_) rfl (by kernel_rfl) (by kernel_rfl) (by kernel_rfl) (fun _ _ _ h => h) (Or.inl ⟨by rfl, ?_⟩) hS ?_
          rotate_left
          · (intro w hSw; (try dsimp only at hSw); go_simp; (try with_reducible rfl))
          rotate_left
          simp only [Act.put, List.getElem_toArray, List.getElem_cons_zero, List.getElem_cons_succ, List.setIfInBounds_toArray, List.set_cons_zero, List.set_cons_succ]
          refine wpAnyH_ready (rs := [12]) (by kernel_rfl) (by simp) ?_
          refine AllReadyH.cons rfl (fun K hK => ?_) AllReadyH.nil
          rw [if_pos (by rfl)]
          refine wp_store_row 24 (.tmp 5) (.tmp 22) rfl gx #[.int .u32 (id : Int), .int .u32 (age : Int), .int .u32 (sq : Int), .int .i64 (tl : Int)] rfl rfl 24 #[.int .u32 0, .int .u32 0, .int .u32 0, .int .i64 0] BX (by kernel_rfl) rfl (by kernel_rfl) ?_
          have BY := BX.set #[.int .u32 (id : Int), .int .u32 (age : Int), .int .u32 (sq : Int), .int .i64 (tl : Int)]
          refine hK.out _ _ ⟨Ext.setRow hS.1 (by omega) _, hS.2.1.other (by omega) _, hS.2.2.1.other (by omega) _, (cell_other _ _ _ (p := ⟨g, 13, none⟩) (show g ≠ gx by omega)).trans hS.2.2.2⟩ (fun hS' => ?_)
          clear hK K hS
          have hS := hS'
          clear hS'
          try simp only [Act.put, List.getElem_toArray, List.getElem_cons_zero, List.getElem_cons_succ, List.setIfInBounds_toArray, List.set_cons_zero, List.set_cons_succ]
          refine wpAnyH_done (by kernel_rfl) ?_ _
          go_wp2_with fail
          go_meet
          exact ⟨gx, rfl, hgw, BY, hS.2.2.1, hS.2.1, hS.1⟩
      · rw [if_pos (by rfl)]
        go_simp
        have hgz : g < v.heap.size := block_lt_of_cell hS.2.2.2
        obtain ⟨gx, hgx⟩ : ∃ gx : Nat, gx = v.heap.size := ⟨_, rfl⟩
        have BX := BoxOf.new' v gx #[.int .u32 0, .int .u32 0, .int .u32 0, .int .i64 0] 24 hgx
        have hgw : w.heap.size < gx := by rw [hgx]; exact hS.2.2.1.lt
        have hgg : g < gx := by rw [hgx]; exact hgz
        refine hK.out _ _ ⟨Ext.alloc hS.1 _, hS.2.1.alloc _, hS.2.2.1.alloc _, ((Ext.alloc (Below.refl _ _) _).cell (p := ⟨g, 13, none⟩) hgz).trans hS.2.2.2⟩ (fun hS' => ?_)
        rw [← hgx]
        clear hgx hgz
        clear hK K hS
        have hS := hS'
        clear hS'
        try simp only [Act.put, List.getElem_toArray, List.getElem_cons_zero, List.getElem_cons_succ, List.setIfInBounds_toArray, List.set_cons_zero, List.set_cons_succ]
        generalize v.alloc (.cells #[.int .u32 0, .int .u32 0, .int .u32 0, .int .i64 0] 24) = v2 at BX hS ⊢
        refine wpAnyH_ready (rs := [3]) (by kernel_rfl) (by simp) ?_
        refine AllReadyH.cons rfl (fun K hK => ?_) AllReadyH.nil
        rw [if_pos (by rfl)]
        go_simp
        refine (N2.out _ _ hS.2.1).mono ?_
        rintro e v ⟨rfl, b5⟩
        have BX' := BX.next b5
        clear BX
        have BX := BX'
        clear BX'
        refine hK.out _ _ ⟨Ext.trans hS.1 b5, hS.2.1.below b5, hS.2.2.1.next b5, (b5.cell (p := ⟨g, 13, none⟩) (block_lt_of_cell hS.2.2.2)).trans hS.2.2.2⟩ (fun hS' => ?_)
        clear b5
        clear hK K hS
        have hS := hS'
        clear hS'
        try simp only [Act.put, List.getElem_toArray, List.getElem_cons_zero, List.getElem_cons_succ, List.setIfInBounds_toArray, List.set_cons_zero, List.set_cons_succ]
        refine wpAnyH_ready (rs := [5]) (by kernel_rfl) (by simp) ?_
        refine AllReadyH.cons rfl (fun K hK => ?_) AllReadyH.nil
        rw [if_pos (by rfl)]
        go_simp
        refine (N3.out _ _ hS.2.1).mono ?_
        rintro e v ⟨rfl, b5⟩
        have BX' := BX.next b5
        clear BX
        have BX := BX'
        clear BX'
        refine hK.out _ _ ⟨Ext.trans hS.1 b5, hS.2.1.below b5, hS.2.2.1.next b5, (b5.cell (p := ⟨g, 13, none⟩) (block_lt_of_cell hS.2.2.2)).trans hS.2.2.2⟩ (fun hS' => ?_)
        clear b5
        clear hK K hS
        have hS := hS'
        clear hS'
        try simp only [Act.put, List.getElem_toArray, List.getElem_cons_zero, List.getElem_cons_succ, List.setIfInBounds_toArray, List.set_cons_zero, List.set_cons_succ]
        refine wpAnyH_take (i := 10) (oi := _) (v := ?_) rfl (by kernel_rfl) (by kernel_rfl) (by kernel_rfl) (fun _ _ _ h => h) (Or.inl ⟨by rfl, ?_⟩) hS ?_
        rotate_left
        · (intro w hSw; (try dsimp only at hSw); go_simp; (try with_reducible rfl))
        rotate_left
        simp only [Act.put, List.getElem_toArray, List.getElem_cons_zero, List.getElem_cons_succ, List.setIfInBounds_toArray, List.set_cons_zero, List.set_cons_succ]
        refine wpAnyH_ready (rs := [12]) (by kernel_rfl) (by simp) ?_
        refine AllReadyH.cons rfl (fun K hK => ?_) AllReadyH.nil
        rw [if_pos (by rfl)]
        refine wp_store_row 24 (.tmp 5) (.tmp 22) rfl gx #[.int .u32 (id : Int), .int .u32 (age : Int), .int .u32 (sq : Int), .int .i64 (tl : Int)] rfl rfl 24 #[.int .u32 0, .int .u32 0, .int .u32 0, .int .i64 0] BX (by kernel_rfl) rfl (by kernel_rfl) ?_
        have BY := BX.set #[.int .u32 (id : Int), .int .u32 (age : Int), .int .u32 (sq : Int), .int .i64 (tl : Int)]
        refine hK.out _ _ ⟨Ext.setRow hS.1 (by omega) _, hS.2.1.other (by omega) _, hS.2.2.1.other (by omega) _, (cell_other _ _ _ (p := ⟨g, 13, none⟩) (show g ≠ gx by omega)).trans hS.2.2.2⟩ (fun hS' => ?_)
        clear hK K hS
        have hS := hS'
        clear hS'
        try simp only [Act.put, List.getElem_toArray, List.getElem_cons_zero, List.getElem_cons_succ, List.setIfInBounds_toArray, List.set_cons_zero, List.set_cons_succ]
        refine wpAnyH_done (by kernel_rfl) ?_ _
        go_wp2_with fail
        go_meet
        exact ⟨gx, rfl, hgw, BY, hS.2.2.1, hS.2.1, hS.1⟩
    · rw [if_pos (by rfl)]
      go_simp
      have hgz : g < v.heap.size := block_lt_of_cell hS.2.2.2
      obtain ⟨gx, hgx⟩ : ∃ gx : Nat, gx = v.heap.size := ⟨_, rfl⟩
      have BX := BoxOf.new' v gx #[.int .u32 0, .int .u32 0, .int .u32 0, .int .i64 0] 24 hgx
      have hgw : w.heap.size < gx := by rw [hgx]; exact hS.2.2.1.lt
      have hgg : g < gx := by rw [hgx]; exact hgz
      refine hK.out _ _ ⟨Ext.alloc hS.1 _, hS.2.1.alloc _, hS.2.2.1.alloc _, ((Ext.alloc (Below.refl _ _) _).cell (p := ⟨g, 13, none⟩) hgz).trans hS.2.2.2⟩ (fun hS' => ?_)
      rw [← hgx]
      clear hgx hgz
      clear hK K hS
      have hS := hS'
      clear hS'
      try simp only [Act.put, List.getElem_toArray, List.getElem_cons_zero, List.getElem_cons_succ, List.setIfInBounds_toArray, List.set_cons_zero, List.set_cons_succ]
      generalize v.alloc (.cells #[.int .u32 0, .int .u32 0, .int .u32 0, .int .i64 0] 24) = v2 at BX hS ⊢
      refine wpAnyH_ready (rs := [1]) (by kernel_rfl) (by simp) ?_
      refine AllReadyH.cons rfl (fun K hK => ?_) AllReadyH.nil
      rw [if_pos (by rfl)]
      go_simp
      refine (N1.out _ _ hS.2.1).mono ?_
      rintro e v ⟨rfl, b5⟩
      have BX' := BX.next b5
      clear BX
      have BX := BX'
      clear BX'
      refine hK.out _ _ ⟨Ext.trans hS.1 b5, hS.2.1.below b5, hS.2.2.1.next b5, (b5.cell (p := ⟨g, 13, none⟩) (block_lt_of_cell hS.2.2.2)).trans hS.2.2.2⟩ (fun hS' => ?_)
      clear b5
      clear hK K hS
      have hS := hS'
      clear hS'
      try simp only [Act.put, List.getElem_toArray, List.getElem_cons_zero, List.getElem_cons_succ, List.setIfInBounds_toArray, List.set_cons_zero, List.set_cons_succ]
      refine wpAnyH_ready (rs := [3]) (by kernel_rfl) (by simp) ?_
      refine AllReadyH.cons rfl (fun K hK => ?_) AllReadyH.nil
      rw [if_pos (by rfl)]
      go_simp
      refine (N2.out _ _ hS.2.1).mono ?_
      rintro e v ⟨rfl, b5⟩
      have BX' := BX.next b5
      clear BX
      have BX := BX'
      clear BX'
      refine hK.out _ _ ⟨Ext.trans hS.1 b5, hS.2.1.below b5, hS.2.2.1.next b5, (b5.cell (p := ⟨g, 13, none⟩) (block_lt_of_cell hS.2.2.2)).trans hS.2.2.2⟩ (fun hS' => ?_)
      clear b5
      clear hK K hS
      have hS := hS'
      clear hS'
      try simp only [Act.put, List.getElem_toArray, List.getElem_cons_zero, List.getElem_cons_succ, List.setIfInBounds_toArray, List.set_cons_zero, List.set_cons_succ]
      refine wpAnyH_ready (rs := [5]) (by kernel_rfl) (by simp) ?_
      refine AllReadyH.cons rfl (fun K hK => ?_) AllReadyH.nil
      rw [if_pos (by rfl)]
      go_simp
      refine (N3.out _ _ hS.2.1).mono ?_
      rintro e v ⟨rfl, b5⟩
      have BX' := BX.next b5
      clear BX
      have BX := BX'
      clear BX'
      refine hK.out _ _ ⟨Ext.trans hS.1 b5, hS.2.1.below b5, hS.2.2.1.next b5, (b5.cell (p := ⟨g, 13, none⟩) (block_lt_of_cell hS.2.2.2)).trans hS.2.2.2⟩ (fun hS' => ?_)
      clear b5
      clear hK K hS
      have hS := hS'
      clear hS'
      try simp only [Act.put, List.getElem_toArray, List.getElem_cons_zero, List.getElem_cons_succ, List.setIfInBounds_toArray, List.set_cons_zero, List.set_cons_succ]
      refine wpAnyH_take (i := 10) (oi := _) (v := ?_) rfl (by kernel_rfl) (by kernel_rfl) (by kernel_rfl) (fun _ _ _ h => h) (Or.inl ⟨by rfl, ?_⟩) hS ?_
      rotate_left
      · (intro w hSw; (try dsimp only at hSw); go_simp; (try with_reducible rfl))
      rotate_left
      simp only [Act.put, List.getElem_toArray, List.getElem_cons_zero, List.getElem_cons_succ, List.setIfInBounds_toArray, List.set_cons_zero, List.set_cons_succ]
      refine wpAnyH_ready (rs := [12]) (by kernel_rfl) (by simp) ?_
      refine AllReadyH.cons rfl (fun K hK => ?_) AllReadyH.nil
      rw [if_pos (by rfl)]
      refine wp_store_row 24 (.tmp 5) (.tmp 22) rfl gx #[.int .u32 (id : Int), .int .u32 (age : Int), .int .u32 (sq : Int), .int .i64 (tl : Int)] rfl rfl 24 #[.int .u32 0, .int .u32 0, .int .u32 0, .int .i64 0] BX (by kernel_rfl) rfl (by kernel_rfl) ?_
      have BY := BX.set #[.int .u32 (id : Int), .int .u32 (age : Int), .int .u32 (sq : Int), .int .i64 (tl : Int)]
      refine hK.out _ _ ⟨Ext.setRow hS.1 (by omega) _, hS.2.1.other (by omega) _, hS.2.2.1.other (by omega) _, (cell_other _ _ _ (p := ⟨g, 13, none⟩) (show g ≠ gx by omega)).trans hS.2.2.2⟩ (fun hS' => ?_)
      clear hK K hS
      have hS := hS'
      clear hS'
      try simp only [Act.put, List.getElem_toArray, List.getElem_cons_zero, List.getElem_cons_succ, List.setIfInBounds_toArray, List.set_cons_zero, List.set_cons_succ]
      refine wpAnyH_done (by kernel_rfl) ?_ _
      go_wp2_with fail
      go_meet
      exact ⟨gx, rfl, hgw, BY, hS.2.2.1, hS.2.1, hS.1⟩
  case rest =>
    obtain ⟨gx, rfl, hgw, BY, BZ, hbc, t4⟩ := hcut
    have x4 := BY.cell
    clear t2 hbL A2 c13
    rcases HR.out with ⟨hok, rfl, rfl⟩ | ⟨hok, hne, rfl, rfl⟩ | ⟨hok, heq, rfl, rfl⟩
    · have HM := Lib.hid (rsmay_bad id age sq tl hok)
      clear hok
      go_upto_region 5 with fail
      refine wp_region_held_drew (S := fun w' => Below w.heap.size w w' ∧ Bs w' (some ⟨g, 0, none⟩) 128 L ∧ BoxOf w' w.heap.size #[.int .u32 0, .int .u32 0, .int .u32 0, .int .i64 0] 24 ∧ BoxOf w' gx #[.int .u32 (id : Int), .int .u32 (age : Int), .int .u32 (sq : Int), .int .i64 (tl : Int)] 24 ∧ ∀ o, w'.cell? ⟨gx, o, none⟩ = #[.int .u32 (id : Int), .int .u32 (age : Int), .int .u32 (sq : Int), .int .i64 (tl : Int)].toList[o]?) (by kernel_rfl) ⟨Ext.drew t4, hbc, BZ.drew, BY.drew, BY.drew.cell⟩ (fun hS => ?_)
      clear t4 hbc BZ BY x4
      refine wpAnyH_take (i := 0) (oi := _) (v := ?_) rfl (by kernel_rfl) (by kernel_rfl) (by kernel_rfl) (fun _ _ _ h => h) (Or.inl ⟨by rfl, ?_⟩) hS ?_
      rotate_left
      · (intro w hSw; (try dsimp only at hSw); go_simp; (try with_reducible rfl))
      rotate_left
      simp only [Act.put, List.getElem_toArray, List.getElem_cons_zero, List.getElem_cons_succ, List.setIfInBounds_toArray, List.set_cons_zero, List.set_cons_succ]
      refine wpAnyH_ready (rs := [1]) (by kernel_rfl) (by simp) ?_
      refine AllReadyH.cons rfl (fun K hK => ?_) AllReadyH.nil
      rw [if_pos (by rfl)]
      go_simp
      refine (HM.out _).mono ?_
      rintro e w5 ⟨rfl, b5⟩
      refine hK.out _ _ ⟨Ext.trans hS.1 b5, hS.2.1.below b5, hS.2.2.1.next b5, hS.2.2.2.1.next b5, (hS.2.2.2.1.next b5).cell⟩ (fun hS' => ?_)
      clear b5
      clear hK K hS
      have hS := hS'
      clear hS'
      try simp only [Act.put, List.getElem_toArray, List.getElem_cons_zero, List.getElem_cons_succ, List.setIfInBounds_toArray, List.set_cons_zero, List.set_cons_succ]
      refine wpAnyH_take (i := 2) (oi := _) (v := ?_) rfl (by kernel_rfl) (by kernel_rfl) (by kernel_rfl) (fun _ _ _ h => h) (Or.inl ⟨by rfl, ?_⟩) hS ?_
      rotate_left
      · (intro w hSw; (try dsimp only at hSw); go_simp; (try with_reducible rfl))
      rotate_left
      simp only [Act.put, List.getElem_toArray, List.getElem_cons_zero, List.getElem_cons_succ, List.setIfInBounds_toArray, List.set_cons_zero, List.set_cons_succ]
      refine wpAnyH_take (i := 3) (oi := _) (v := ?_) rfl (by kernel_rfl) (by kernel_rfl) (by kernel_rfl) (fun _ _ _ h => h) (Or.inl ⟨by rfl, ?_⟩) hS ?_
      rotate_left
      · (intro w hSw; (try dsimp only at hSw); go_simp; (try with_reducible rfl))
      rotate_left
      simp only [Act.put, List.getElem_toArray, List.getElem_cons_zero, List.getElem_cons_succ, List.setIfInBounds_toArray, List.set_cons_zero, List.set_cons_succ]
      refine wpAnyH_take (i := 4) (oi := _) (v := ?_) rfl (by kernel_rfl) (by kernel_rfl) (by kernel_rfl) (fun _ _ _ h => h) (Or.inr ⟨by rfl, ?_⟩) hS ?_
      rotate_left
      · rfl
      rotate_left
      simp only [Act.put, List.getElem_toArray, List.getElem_cons_zero, List.getElem_cons_succ, List.setIfInBounds_toArray, List.set_cons_zero, List.set_cons_succ]
      refine wpAnyH_take (i := 5) (oi := _) (v := ?_) rfl (by kernel_rfl) (by kernel_rfl) (by kernel_rfl) (fun _ _ _ h => h) (Or.inr ⟨by rfl, ?_⟩) hS ?_
      rotate_left
      · rfl
      rotate_left
      simp only [Act.put, List.getElem_toArray, List.getElem_cons_zero, List.getElem_cons_succ, List.setIfInBounds_toArray, List.set_cons_zero, List.set_cons_succ]
      refine wpAnyH_take (i := 6) (oi := _) (v := ?_) rfl (by kernel_rfl) (by kernel_rfl) (by kernel_rfl) (fun _ _ _ h => h) (Or.inr ⟨by rfl, ?_⟩) hS ?_
      rotate_left
      · rfl
      rotate_left
      simp only [Act.put, List.getElem_toArray, List.getElem_cons_zero, List.getElem_cons_succ, List.setIfInBounds_toArray, List.set_cons_zero, List.set_cons_succ]
      refine wpAnyH_take (i := 7) (oi := _) (v := ?_) rfl (by kernel_rfl) (by kernel_rfl) (by kernel_rfl) (fun _ _ _ h => h) (Or.inr ⟨by rfl, ?_⟩) hS ?_
      rotate_left
      · rfl
      rotate_left
      simp only [Act.put, List.getElem_toArray, List.getElem_cons_zero, List.getElem_cons_succ, List.setIfInBounds_toArray, List.set_cons_zero, List.set_cons_succ]
      refine wpAnyH_take (i := 8) (oi := _) (v := ?_) rfl (by kernel_rfl) (by kernel_rfl) (by kernel_rfl) (fun _ _ _ h => h) (Or.inr ⟨by rfl, ?_⟩) hS ?_
      rotate_left
      · rfl
      rotate_left
      simp only [Act.put, List.getElem_toArray, List.getElem_cons_zero, List.getElem_cons_succ, List.setIfInBounds_toArray, List.set_cons_zero, List.set_cons_succ]
      refine wpAnyH_take (i := 9) (oi := _) (v := ?_) rfl (by kernel_rfl) (by kernel_rfl) (by kernel_rfl) (fun _ _ _ h => h) (Or.inr ⟨by rfl, ?_⟩) hS ?_
      rotate_left
      · rfl
      rotate_left
      simp only [Act.put, List.getElem_toArray, List.getElem_cons_zero, List.getElem_cons_succ, List.setIfInBounds_toArray, List.set_cons_zero, List.set_cons_succ]
      refine wpAnyH_take (i := 10) (oi := _) (v := ?_) rfl (by kernel_rfl) (by kernel_rfl) (by kernel_rfl) (fun _ _ _ h => h) (Or.inl ⟨by rfl, ?_⟩) hS ?_
      rotate_left
      · (intro w hSw; (try dsimp only at hSw); go_simp; (try with_reducible rfl))
      rotate_left
      simp only [Act.put, List.getElem_toArray, List.getElem_cons_zero, List.getElem_cons_succ, List.setIfInBounds_toArray, List.set_cons_zero, List.set_cons_succ]
      refine wpAnyH_done (by kernel_rfl) ?_ _
      have t5 := hS.1
      have B := Lib.hid hS.2.2.1
      clear hS
      go_wp2_with (refine wpList_store_rowTo rfl 24 (.tmp 2) (.tmp 34) rfl rfl w.heap.size #[.int .u32 0, .int .u32 0, .int .u32 0, .int .i64 0] rfl rfl 24 #[.int .u32 0, .int .u32 0, .int .u32 0, .int .i64 0] B.out (by kernel_rfl) rfl (by kernel_rfl) ?_)
      exact bodyPost_ret (v := .tuple #[.agg #[.int .u32 0, .int .u32 0, .int .u32 0, .int .i64 0], .int .i64 90]) (Eq.trans (results_row2 (P := Try.prog) (fn := Try.f15) (p := 2) (u := 3) (ty := 24) rfl _ _ w.heap.size 24 #[.int .u32 0, .int .u32 0, .int .u32 0, .int .i64 0] (0, 0) _ rfl (B.out.set _) Try.underlying24 rfl (by kernel_rfl)) rfl) rfl ⟨rfl, Ext.setRow t5 (Nat.le_refl _) _⟩
    all_goals
      have HM := Lib.hid (rsmay_ok id age sq tl hok)
      have HK := Lib.hid (rsblock_any id age sq tl I2.1 I2.2.1 I2.2.2.1 I2.2.2.2)
      clear hok I2
      go_upto_region 5 with fail
      refine wp_region_held_drew (S := fun w' => Below w.heap.size w w' ∧ Bs w' (some ⟨g, 0, none⟩) 128 L ∧ BoxOf w' w.heap.size #[.int .u32 0, .int .u32 0, .int .u32 0, .int .i64 0] 24 ∧ BoxOf w' gx #[.int .u32 (id : Int), .int .u32 (age : Int), .int .u32 (sq : Int), .int .i64 (tl : Int)] 24 ∧ ∀ o, w'.cell? ⟨gx, o, none⟩ = #[.int .u32 (id : Int), .int .u32 (age : Int), .int .u32 (sq : Int), .int .i64 (tl : Int)].toList[o]?) (by kernel_rfl) ⟨Ext.drew t4, hbc, BZ.drew, BY.drew, BY.drew.cell⟩ (fun hS => ?_)
      clear t4 hbc BZ BY x4
      refine wpAnyH_take (i := 0) (oi := _) (v := ?_) rfl (by kernel_rfl) (by kernel_rfl) (by kernel_rfl) (fun _ _ _ h => h) (Or.inl ⟨by rfl, ?_⟩) hS ?_
      rotate_left
      · (intro w hSw; (try dsimp only at hSw); go_simp; (try with_reducible rfl))
      rotate_left
      simp only [Act.put, List.getElem_toArray, List.getElem_cons_zero, List.getElem_cons_succ, List.setIfInBounds_toArray, List.set_cons_zero, List.set_cons_succ]
      refine wpAnyH_ready (rs := [1]) (by kernel_rfl) (by simp) ?_
      refine AllReadyH.cons rfl (fun K hK => ?_) AllReadyH.nil
      rw [if_pos (by rfl)]
      go_simp
      refine (HM.out _).mono ?_
      rintro e w5 ⟨rfl, b5⟩
      refine hK.out _ _ ⟨Ext.trans hS.1 b5, hS.2.1.below b5, hS.2.2.1.next b5, hS.2.2.2.1.next b5, (hS.2.2.2.1.next b5).cell⟩ (fun hS' => ?_)
      clear b5
      clear hK K hS
      have hS := hS'
      clear hS'
      try simp only [Act.put, List.getElem_toArray, List.getElem_cons_zero, List.getElem_cons_succ, List.setIfInBounds_toArray, List.set_cons_zero, List.set_cons_succ]
      refine wpAnyH_take (i := 2) (oi := _) (v := ?_) rfl (by kernel_rfl) (by kernel_rfl) (by kernel_rfl) (fun _ _ _ h => h) (Or.inl ⟨by rfl, ?_⟩) hS ?_
      rotate_left
      · (intro w hSw; (try dsimp only at hSw); go_simp; (try with_reducible rfl))
      rotate_left
      simp only [Act.put, List.getElem_toArray, List.getElem_cons_zero, List.getElem_cons_succ, List.setIfInBounds_toArray, List.set_cons_zero, List.set_cons_succ]
      refine wpAnyH_take (i := 3) (oi := _) (v := ?_) rfl (by kernel_rfl) (by kernel_rfl) (by kernel_rfl) (fun _ _ _ h => h) (Or.inl ⟨by rfl, ?_⟩) hS ?_
      rotate_left
      · (intro w hSw; (try dsimp only at hSw); go_simp; (try with_reducible rfl))
      rotate_left
      simp only [Act.put, List.getElem_toArray, List.getElem_cons_zero, List.getElem_cons_succ, List.setIfInBounds_toArray, List.set_cons_zero, List.set_cons_succ]
      refine wpAnyH_take (i := 4) (oi := _) (v := ?_) rfl (by kernel_rfl) (by kernel_rfl) (by kernel_rfl) (fun _ _ _ h => h) (Or.inl ⟨by rfl, ?_⟩) hS ?_
      rotate_left
      · (intro w hSw; (try dsimp only at hSw); go_simp; (try with_reducible rfl))
      rotate_left
      simp only [Act.put, List.getElem_toArray, List.getElem_cons_zero, List.getElem_cons_succ, List.setIfInBounds_toArray, List.set_cons_zero, List.set_cons_succ]
      refine wpAnyH_take (i := 7) (oi := _) (v := ?_) rfl (by kernel_rfl) (by kernel_rfl) (by kernel_rfl) (fun _ _ _ h => h) (Or.inl ⟨by rfl, ?_⟩) hS ?_
      rotate_left
      · (intro w hSw; (try dsimp only at hSw); go_simp; (try with_reducible rfl))
      rotate_left
      simp only [Act.put, List.getElem_toArray, List.getElem_cons_zero, List.getElem_cons_succ, List.setIfInBounds_toArray, List.set_cons_zero, List.set_cons_succ]
      refine wpAnyH_take (i := 8) (oi := _) (v := ?_) rfl (by kernel_rfl) (by kernel_rfl) (by kernel_rfl) (fun _ _ _ h => h) (Or.inl ⟨by rfl, ?_⟩) hS ?_
      rotate_left
      · (intro w hSw; have sq := run_string_bs (P := Try.prog) 128 26 9 5 Try.underlying26 Try.underlying5 Try.underlying9 hSw.2.1; (try dsimp only at hSw); go_simp; (try with_reducible rfl))
      rotate_left
      simp only [Act.put, List.getElem_toArray, List.getElem_cons_zero, List.getElem_cons_succ, List.setIfInBounds_toArray, List.set_cons_zero, List.set_cons_succ]
      refine wpAnyH_ready (rs := [5]) (by kernel_rfl) (by simp) ?_
      refine AllReadyH.cons rfl (fun K hK => ?_) AllReadyH.nil
      rw [if_pos (by rfl)]
      go_simp
      refine (HK.out _).mono ?_
      rintro e w6 ⟨P, c, rfl, hp, b6⟩
      refine hK.out _ _ ⟨Ext.trans hS.1 b6, hS.2.1.below b6, hS.2.2.1.next b6, hS.2.2.2.1.next b6, (hS.2.2.2.1.next b6).cell⟩ (fun hS' => ?_)
      have s1 := run_string_bs (P := Try.prog) c 26 9 5 Try.underlying26 Try.underlying5 Try.underlying9 hp
      clear b6 hp
      clear hK K hS
      have hS := hS'
      clear hS'
      try simp only [Act.put, List.getElem_toArray, List.getElem_cons_zero, List.getElem_cons_succ, List.setIfInBounds_toArray, List.set_cons_zero, List.set_cons_succ]
      generalize supBlock id age sq tl = SB at *
    · have hs : (!SB == L) = true := by simpa using hne
      refine wpAnyH_ready (rs := [6]) (by kernel_rfl) (by simp) ?_
      refine AllReadyH.cons rfl (fun K hK => ?_) AllReadyH.nil
      rw [if_pos (by rfl)]
      go_simp
      refine hK.out _ _ hS (fun hS' => ?_)
      clear hK K hS
      have hS := hS'
      clear hS'
      try simp only [Act.put, List.getElem_toArray, List.getElem_cons_zero, List.getElem_cons_succ, List.setIfInBounds_toArray, List.set_cons_zero, List.set_cons_succ]
      refine wpAnyH_take (i := 9) (oi := _) (v := ?_) rfl (by kernel_rfl) (by kernel_rfl) (by kernel_rfl) (fun _ _ _ h => h) (Or.inl ⟨by rfl, ?_⟩) hS ?_
      rotate_left
      · (intro w hSw; (try dsimp only at hSw); go_simp; (try with_reducible rfl))
      rotate_left
      simp only [Act.put, List.getElem_toArray, List.getElem_cons_zero, List.getElem_cons_succ, List.setIfInBounds_toArray, List.set_cons_zero, List.set_cons_succ]
      refine wpAnyH_take (i := 10) (oi := _) (v := ?_) rfl (by kernel_rfl) (by kernel_rfl) (by kernel_rfl) (fun _ _ _ h => h) (Or.inl ⟨by rfl, ?_⟩) hS ?_
      rotate_left
      · (intro w hSw; (try dsimp only at hSw); go_simp; (try with_reducible rfl))
      rotate_left
      simp only [Act.put, List.getElem_toArray, List.getElem_cons_zero, List.getElem_cons_succ, List.setIfInBounds_toArray, List.set_cons_zero, List.set_cons_succ]
      refine wpAnyH_done (by kernel_rfl) ?_ _
      have t5 := hS.1
      have B := Lib.hid hS.2.2.1
      clear hS
      go_wp2_with (refine wpList_store_rowTo rfl 24 (.tmp 2) (.tmp 34) rfl rfl w.heap.size #[.int .u32 0, .int .u32 0, .int .u32 0, .int .i64 0] rfl rfl 24 #[.int .u32 0, .int .u32 0, .int .u32 0, .int .i64 0] B.out (by kernel_rfl) rfl (by kernel_rfl) ?_)
      exact bodyPost_ret (v := .tuple #[.agg #[.int .u32 0, .int .u32 0, .int .u32 0, .int .i64 0], .int .i64 90]) (Eq.trans (results_row2 (P := Try.prog) (fn := Try.f15) (p := 2) (u := 3) (ty := 24) rfl _ _ w.heap.size 24 #[.int .u32 0, .int .u32 0, .int .u32 0, .int .i64 0] (0, 0) _ rfl (B.out.set _) Try.underlying24 rfl (by kernel_rfl)) rfl) rfl ⟨rfl, Ext.setRow t5 (Nat.le_refl _) _⟩
    · subst heq
      refine wpAnyH_ready (rs := [6]) (by kernel_rfl) (by simp) ?_
      refine AllReadyH.cons rfl (fun K hK => ?_) AllReadyH.nil
      rw [if_pos (by rfl)]
      go_simp
      refine hK.out _ _ hS (fun hS' => ?_)
      clear hK K hS
      have hS := hS'
      clear hS'
      try simp only [Act.put, List.getElem_toArray, List.getElem_cons_zero, List.getElem_cons_succ, List.setIfInBounds_toArray, List.set_cons_zero, List.set_cons_succ]
      refine wpAnyH_take (i := 9) (oi := _) (v := ?_) rfl (by kernel_rfl) (by kernel_rfl) (by kernel_rfl) (fun _ _ _ h => h) (Or.inl ⟨by rfl, ?_⟩) hS ?_
      rotate_left
      · (intro w hSw; (try dsimp only at hSw); go_simp; (try with_reducible rfl))
      rotate_left
      simp only [Act.put, List.getElem_toArray, List.getElem_cons_zero, List.getElem_cons_succ, List.setIfInBounds_toArray, List.set_cons_zero, List.set_cons_succ]
      refine wpAnyH_take (i := 10) (oi := _) (v := ?_) rfl (by kernel_rfl) (by kernel_rfl) (by kernel_rfl) (fun _ _ _ h => h) (Or.inl ⟨by rfl, ?_⟩) hS ?_
      rotate_left
      · (intro w hSw; (try dsimp only at hSw); go_simp; (try with_reducible rfl))
      rotate_left
      simp only [Act.put, List.getElem_toArray, List.getElem_cons_zero, List.getElem_cons_succ, List.setIfInBounds_toArray, List.set_cons_zero, List.set_cons_succ]
      refine wpAnyH_done (by kernel_rfl) ?_ _
      have t5 := hS.1
      have B := Lib.hid hS.2.2.1
      have x7 := hS.2.2.2.2
      clear hS
      go_wp2_with (refine wpList_store_rowTo rfl 24 (.tmp 2) (.tmp 35) rfl rfl w.heap.size (supV id age sq tl) rfl rfl 24 #[.int .u32 0, .int .u32 0, .int .u32 0, .int .i64 0] B.out (by kernel_rfl) rfl (by kernel_rfl) ?_)
      exact bodyPost_ret (v := .tuple #[.agg (supV id age sq tl), .int .i64 0]) (Eq.trans (results_row2 (P := Try.prog) (fn := Try.f15) (p := 2) (u := 3) (ty := 24) rfl _ _ w.heap.size 24 (supV id age sq tl) (0, 0) _ rfl (B.out.set _) Try.underlying24 rfl (by kernel_rfl)) rfl) rfl ⟨rfl, Ext.setRow t5 (Nat.le_refl _) _⟩

theorem supBlock_whole {id age sq t : Nat} {bs : List UInt8} (h : supBlock id age sq t = wholeL bs) : supBlock id age sq t = bs := by
  unfold wholeL at h
  split at h
  · exfalso
    have h1 : (supBlock id age sq t).getD 0 0 = zeros.getD 0 0 := by rw [h]
    unfold supBlock at h1
    rw [sealL_getD _ (supPad_len id age sq t) 0 (by decide), pad_getD, zeros_getD] at h1
    exact absurd h1 (by show ((83 : UInt8) = 0) → False; decide)
  · exact h

theorem rsread_block (A : Option Addr) (n q : Nat) (bs : List UInt8) (hn : n = 0 ∨ n = 128) (w : World) (hb : Bs w A n bs) :
    (∃ id age sq tl, ReadIs bs id age sq tl ∧ Calls Try.prog 15 #[.slice A n q] w fun e w' => e = .returned (.tuple #[.agg (supV id age sq tl), .int .i64 0]) ∧ Below w.heap.size w w') ∨
    ((∀ id age sq tl, ¬ ReadIs bs id age sq tl) ∧ Calls Try.prog 15 #[.slice A n q] w fun e w' => e = .returned (.tuple #[.agg #[.int .u32 0, .int .u32 0, .int .u32 0, .int .i64 0], .int .i64 90]) ∧ Below w.heap.size w w') := by
  have core := fun R C h => rsread_core A n q bs hn _ rfl w hb _ _ _ _ rfl rfl rfl rfl R C h
  by_cases hok : SupOk (takeN (wholeL bs) 5 4) (takeN (wholeL bs) 9 4) ((takeN (wholeL bs) 13 1 : Nat) : Int)
  · by_cases hbs : supBlock (takeN (wholeL bs) 1 4) (takeN (wholeL bs) 5 4) (takeN (wholeL bs) 9 4) (takeN (wholeL bs) 13 1) = wholeL bs
    · exact .inl ⟨_, _, _, _, ⟨⟨rfl, rfl, rfl, rfl⟩, hok, supBlock_whole hbs⟩, core _ _ (.inr (.inr ⟨hok, hbs, rfl, rfl⟩))⟩
    · refine .inr ⟨?_, core _ _ (.inr (.inl ⟨hok, hbs, rfl, rfl⟩))⟩
      rintro i1 i2 i3 i4 ⟨⟨rfl, rfl, rfl, rfl⟩, _, h⟩
      refine hbs (h.trans ?_)
      have hl : bs.length = 128 := by rw [← h]; exact supBlock_len _ _ _ _
      exact (wholeL_full hl).symm
  · refine .inr ⟨?_, core _ _ (.inl ⟨hok, rfl, rfl⟩)⟩
    rintro i1 i2 i3 i4 ⟨⟨rfl, rfl, rfl, rfl⟩, h, _⟩
    exact hok h
end Go.Proofs.Ytgmlhfencidahaa
