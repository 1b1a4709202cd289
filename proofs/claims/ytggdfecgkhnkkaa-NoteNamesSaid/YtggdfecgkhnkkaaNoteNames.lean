/- Layer 11 (note): the chapter's examples: the statement. -/
import Derived.Test.YtggdfecgkhnkkaaNoteBack
namespace Go.Proofs.Ytggdfecgkhnkkaa
open Go Go.RowKit
set_option linter.unusedSimpArgs false
set_option linter.unusedVariables false

def recs0 (bs : List UInt8) : List NRec := bs.map fun b => ⟨b.toNat, false, 0⟩
theorem recs0_len (bs : List UInt8) : (recs0 bs).length = bs.length := by simp [recs0]

set_option maxRecDepth 100000 in
set_option maxHeartbeats 2000000 in
theorem of_any (A : Option Addr) (n q : Nat) (bs : List UInt8) (hn : n ≤ 2) (w : World) (hb : Bs w A n bs) :
    Calls Try.prog 15 #[.slice A n q] w fun e w' => ∃ A' c', e = .returned (.agg #[.int .u32 0, .int .u32 1, .int .u32 1, .int .i64 0, .slice A' n c']) ∧ Rs w' A' n (recs0 bs) ∧ Below w.heap.size w w' := by
  have hlen := hb.1
  have HB := Lib.hid hb
  clear hb
  go_enter Try.func15, Try.ntmps15
  go_upto_region 2 with fail
  have Z0 := BoxOf.alloc (BoxOf.new w #[.int .u32 0, .int .u32 0, .int .u32 0, .int .i64 0, .slice none 0 0] 25) (.cells #[.int .u32 0, .int .u32 1, .int .u32 1, .int .i64 0, .slice none 0 0] 25)
  have N0 := BoxOf.new' (w.alloc (.cells #[.int .u32 0, .int .u32 0, .int .u32 0, .int .i64 0, .slice none 0 0] 25)) (w.heap.size + 1) #[.int .u32 0, .int .u32 1, .int .u32 1, .int .i64 0, .slice none 0 0] 25 (by simp)
  have t0 := Ext.alloc (Ext.alloc (Below.refl w.heap.size w) (.cells #[.int .u32 0, .int .u32 0, .int .u32 0, .int .i64 0, .slice none 0 0] 25)) (.cells #[.int .u32 0, .int .u32 1, .int .u32 1, .int .i64 0, .slice none 0 0] 25)
  generalize (w.alloc (.cells #[.int .u32 0, .int .u32 0, .int .u32 0, .int .i64 0, .slice none 0 0] 25)).alloc (.cells #[.int .u32 0, .int .u32 1, .int .u32 1, .int .i64 0, .slice none 0 0] 25) = w0 at *
  go_wp2
  go_loopw [4] (fun i wr => ∃ (j : Nat) (u : Value), j ≤ n ∧ i = .int .i64 j ∧ Below w.heap.size w wr ∧ BoxOf wr w.heap.size #[.int .u32 0, .int .u32 0, .int .u32 0, .int .i64 0, .slice none 0 0] 25 ∧ BoxOf wr (w.heap.size + 1) #[.int .u32 0, .int .u32 1, .int .u32 1, .int .i64 0, u] 25 ∧ OwnR wr (w.heap.size + 1 + 1) u j (recs0 (bs.take j))) (fun i _ => n - (intOf i).toNat)
  case atStart => exact ⟨0, .slice none 0 0, by omega, rfl, t0, Z0, N0, OwnR.nil _ _⟩
  case round =>
    obtain ⟨j, u, hj, rfl, t, Z1, N1, O1⟩ := hrel
    clear t0 Z0 N0
    by_cases hlt : j < n
    · obtain ⟨b, off, rfl, hc⟩ := HB.out.addr (by omega)
      have hjl : j < bs.length := by omega
      have HLT := Lib.hid (show (bs.take (j + 1)).length = j + 1 by simp; omega)
      have hrec : recs0 (bs.take (j + 1)) = recs0 (bs.take j) ++ [⟨bs[j].toNat, false, 0⟩] := by
        unfold recs0
        rw [List.take_succ_eq_append_getElem hjl, List.map_append]
        rfl
      have HREC := Lib.hid hrec
      have HC : Hid (∀ V, Below w.heap.size w V → V.cell? ⟨b, off + j, none⟩ = some (.int .u8 (bs[j].toNat : Int))) := fun V hV => (hV.cell (p := ⟨b, off + j, none⟩) hc.1).trans (hc.2 j hjl)
      clear hc hrec
      generalize bs[j].toNat = x at *
      go_wp2_with fail
      refine wp_region_held_drew (S := fun w' => w'.cell? ⟨b, off + j, none⟩ = some (.int .u8 (x : Int))) (by kernel_rfl) (HC.out _ (Ext.drew t)) (fun hS => ?_)
      have N2 := BoxOf.drew N1
      have Z2 := BoxOf.drew Z1
      have O2 : OwnR wr.drew (w.heap.size + 1 + 1) u j (recs0 (bs.take j)) := O1
      have t' := Ext.drew t
      clear N1 Z1 O1 t
      have t := t'
      clear t'
      generalize wr.drew = v at *
      refine wpAnyH_take (i := 0) (oi := _) (v := ?_) rfl (by kernel_rfl) (by kernel_rfl) (by kernel_rfl) (fun _ _ _ h => h) (Or.inl ⟨by rfl, ?_⟩) hS ?_
      rotate_left
      · (intro w hSw; (try dsimp only at hSw); go_simp; (try with_reducible rfl))
      rotate_left
      simp only [Act.put, List.getElem_toArray, List.getElem_cons_zero, List.getElem_cons_succ, List.setIfInBounds_toArray, List.set_cons_zero, List.set_cons_succ]
      refine wpAnyH_take (i := 2) (oi := _) (v := ?_) rfl (by kernel_rfl) (by kernel_rfl) (by kernel_rfl) (fun _ _ _ h => h) (Or.inl ⟨by rfl, ?_⟩) hS ?_
      rotate_left
      · (intro w hSw; (try dsimp only at hSw); go_simp; (try with_reducible rfl))
      rotate_left
      simp only [Act.put, List.getElem_toArray, List.getElem_cons_zero, List.getElem_cons_succ, List.setIfInBounds_toArray, List.set_cons_zero, List.set_cons_succ]
      refine wpAnyH_take (i := 3) (oi := _) (v := ?_) rfl (by kernel_rfl) (by kernel_rfl) (by kernel_rfl) (fun _ _ _ h => h) (Or.inl ⟨by rfl, ?_⟩) hS ?_
      rotate_left
      · (intro w hSw; (try dsimp only at hSw); go_simp; (try with_reducible rfl))
      rotate_left
      simp only [Act.put, List.getElem_toArray, List.getElem_cons_zero, List.getElem_cons_succ, List.setIfInBounds_toArray, List.set_cons_zero, List.set_cons_succ]
      refine wpAnyH_take (i := 4) (oi := _) (v := ?_) rfl (by kernel_rfl) (by kernel_rfl) (by kernel_rfl) (fun _ _ _ h => h) (Or.inl ⟨by rfl, ?_⟩) hS ?_
      rotate_left
      · (intro w hSw; (try dsimp only at hSw); go_simp; (try with_reducible rfl))
      rotate_left
      simp only [Act.put, List.getElem_toArray, List.getElem_cons_zero, List.getElem_cons_succ, List.setIfInBounds_toArray, List.set_cons_zero, List.set_cons_succ]
      refine wpAnyH_take (i := 5) (oi := _) (v := ?_) rfl (by kernel_rfl) (by kernel_rfl) (by kernel_rfl) (fun _ _ _ h => h) (Or.inl ⟨by rfl, ?_⟩) hS ?_
      rotate_left
      · (intro w hSw; (try dsimp only at hSw); go_simp; (try with_reducible rfl))
      rotate_left
      simp only [Act.put, List.getElem_toArray, List.getElem_cons_zero, List.getElem_cons_succ, List.setIfInBounds_toArray, List.set_cons_zero, List.set_cons_succ]
      refine wpAnyH_take (i := 6) (oi := _) (v := ?_) rfl (by kernel_rfl) (by kernel_rfl) (by kernel_rfl) (fun _ _ _ h => h) (Or.inl ⟨by rfl, ?_⟩) hS ?_
      rotate_left
      · (intro w hSw; (try dsimp only at hSw); go_simp; (try with_reducible rfl))
      rotate_left
      simp only [Act.put, List.getElem_toArray, List.getElem_cons_zero, List.getElem_cons_succ, List.setIfInBounds_toArray, List.set_cons_zero, List.set_cons_succ]
      refine wpAnyH_ready (rs := [1, 7]) (by kernel_rfl) (by simp) ?_
      refine AllReadyH.cons rfl (fun K hK => ?_) (AllReadyH.cons rfl (fun K hK => ?_) AllReadyH.nil)
      · rw [if_pos (by rfl)]
        have yN := N2.cell
        go_simp
        refine hK.out _ _ hS (fun hS' => ?_)
        clear yN
        clear hK K hS
        have hS := hS'
        clear hS'
        try simp only [Act.put, List.getElem_toArray, List.getElem_cons_zero, List.getElem_cons_succ, List.setIfInBounds_toArray, List.set_cons_zero, List.set_cons_succ]
        refine wpAnyH_ready (rs := [7]) (by kernel_rfl) (by simp) ?_
        refine AllReadyH.cons rfl (fun K hK => ?_) AllReadyH.nil
        rw [if_pos (by rfl)]
        go_simp
        obtain ⟨a7, ha7⟩ : ∃ z : Nat, z = v.heap.size := ⟨_, rfl⟩
        have R7 := Rs.new (w := v) a7 ha7 #[.int .u8 (x : Int), .bool false, .int .u32 0] 27 1 [⟨x, false, 0⟩] rfl rfl
        have b7 := Ext.alloc (Below.refl v.heap.size v) (.cells #[.int .u8 (x : Int), .bool false, .int .u32 0] 27)
        have N3 := N2.next b7
        have Z3 := Z2.next b7
        have O3 := O2.next b7
        have t3 := Ext.trans t b7
        refine hK.out _ _ ((b7.cell (p := ⟨b, off + j, none⟩) (block_lt_of_cell hS)).trans hS) (fun hS' => ?_)
        rw [← ha7]
        clear hK K hS N2 Z2 O2 t b7 ha7
        have hS := hS'
        have N2 := N3
        have Z2 := Z3
        have O2 := O3
        have t := t3
        clear hS' N3 Z3 O3 t3
        try simp only [Act.put, List.getElem_toArray, List.getElem_cons_zero, List.getElem_cons_succ, List.setIfInBounds_toArray, List.set_cons_zero, List.set_cons_succ]
        generalize v.alloc (.cells #[.int .u8 (x : Int), .bool false, .int .u32 0] 27) = v at *
        refine wpAnyH_ready (rs := [8]) (by kernel_rfl) (by simp) ?_
        refine AllReadyH.cons rfl (fun K hK => ?_) AllReadyH.nil
        rw [if_pos (by rfl)]
        refine wp_append_recs (.tmp 13) (.tmp 19) rfl (w.heap.size + 1 + 1) u j _ rfl O2 (some ⟨a7, 0, none⟩) 1 1 [⟨x, false, 0⟩] rfl R7 (by omega) (show w.heap.size + 1 + 1 ≤ v.heap.size from N2.lt) ?_
        intro u8 v8 O8 b8
        have N8 := N2.below b8 (by omega)
        have Z8 := Z2.below b8 (by omega)
        have t8 := t.trans (b8.mono (show w.heap.size ≤ w.heap.size + 1 + 1 by omega))
        have hS8 : v8.cell? ⟨b, off + j, none⟩ = some (.int .u8 (x : Int)) := HC.out _ t8
        refine hK.out _ _ hS8 (fun hS' => ?_)
        clear hK K hS N2 Z2 O2 t b8 R7 hS8
        have hS := hS'
        clear hS'
        obtain ⟨A8, c8, rfl, _⟩ := O8.rs (by rw [← HREC.out, recs0_len, HLT.out])
        try simp only [Act.put, List.getElem_toArray, List.getElem_cons_zero, List.getElem_cons_succ, List.setIfInBounds_toArray, List.set_cons_zero, List.set_cons_succ]
        refine wpAnyH_take (i := 9) (oi := _) (v := ?_) rfl (by kernel_rfl) (by kernel_rfl) (by kernel_rfl) (fun _ _ _ h => h) (Or.inl ⟨by rfl, ?_⟩) hS ?_
        rotate_left
        · (intro w hSw; (try dsimp only at hSw); go_simp; (try with_reducible rfl))
        rotate_left
        simp only [Act.put, List.getElem_toArray, List.getElem_cons_zero, List.getElem_cons_succ, List.setIfInBounds_toArray, List.set_cons_zero, List.set_cons_succ]
        refine wpAnyH_ready (rs := [10]) (by kernel_rfl) (by simp) ?_
        refine AllReadyH.cons rfl (fun K hK => ?_) AllReadyH.nil
        rw [if_pos (by rfl)]
        have fN := N8.free
        have yN := N8.cell
        go_simp
        clear fN yN
        have t9 := Below.setCell (p := ⟨w.heap.size + 1, 4, none⟩) t8 (show w.heap.size ≤ w.heap.size + 1 by omega) (.slice A8 (j + 1) c8)
        have N9 : BoxOf _ (w.heap.size + 1) #[.int .u32 0, .int .u32 1, .int .u32 1, .int .i64 0, .slice A8 (j + 1) c8] 25 := nbox_field N8 4 (.slice A8 (j + 1) c8)
        have Z9 := nbox_else Z8 (show w.heap.size ≠ w.heap.size + 1 by omega) 4 (.slice A8 (j + 1) c8)
        have O9 := OwnR.set O8 (show w.heap.size + 1 < w.heap.size + 1 + 1 by omega) 4 (.slice A8 (j + 1) c8)
        refine hK.out _ _ (HC.out _ t9) (fun hS' => ?_)
        clear hK K hS hS' N8 Z8 O8 t8
        try simp only [Act.put, List.getElem_toArray, List.getElem_cons_zero, List.getElem_cons_succ, List.setIfInBounds_toArray, List.set_cons_zero, List.set_cons_succ]
        refine wpAnyH_done (by kernel_rfl) ?_ _
        go_wp2
        go_roundw
        case rel => exact ⟨j + 1, .slice A8 (j + 1) c8, by omega, by go_num, t9, Z9, N9, by rw [← HREC.out] at O9; exact O9⟩
        case measure => simp [intOf]; omega
      · rw [if_pos (by rfl)]
        go_simp
        obtain ⟨a7, ha7⟩ : ∃ z : Nat, z = v.heap.size := ⟨_, rfl⟩
        have R7 := Rs.new (w := v) a7 ha7 #[.int .u8 (x : Int), .bool false, .int .u32 0] 27 1 [⟨x, false, 0⟩] rfl rfl
        have b7 := Ext.alloc (Below.refl v.heap.size v) (.cells #[.int .u8 (x : Int), .bool false, .int .u32 0] 27)
        have N3 := N2.next b7
        have Z3 := Z2.next b7
        have O3 := O2.next b7
        have t3 := Ext.trans t b7
        refine hK.out _ _ ((b7.cell (p := ⟨b, off + j, none⟩) (block_lt_of_cell hS)).trans hS) (fun hS' => ?_)
        rw [← ha7]
        clear hK K hS N2 Z2 O2 t b7 ha7
        have hS := hS'
        have N2 := N3
        have Z2 := Z3
        have O2 := O3
        have t := t3
        clear hS' N3 Z3 O3 t3
        try simp only [Act.put, List.getElem_toArray, List.getElem_cons_zero, List.getElem_cons_succ, List.setIfInBounds_toArray, List.set_cons_zero, List.set_cons_succ]
        generalize v.alloc (.cells #[.int .u8 (x : Int), .bool false, .int .u32 0] 27) = v at *
        refine wpAnyH_ready (rs := [1]) (by kernel_rfl) (by simp) ?_
        refine AllReadyH.cons rfl (fun K hK => ?_) AllReadyH.nil
        rw [if_pos (by rfl)]
        have yN := N2.cell
        go_simp
        refine hK.out _ _ hS (fun hS' => ?_)
        clear yN
        clear hK K hS
        have hS := hS'
        clear hS'
        try simp only [Act.put, List.getElem_toArray, List.getElem_cons_zero, List.getElem_cons_succ, List.setIfInBounds_toArray, List.set_cons_zero, List.set_cons_succ]
        refine wpAnyH_ready (rs := [8]) (by kernel_rfl) (by simp) ?_
        refine AllReadyH.cons rfl (fun K hK => ?_) AllReadyH.nil
        rw [if_pos (by rfl)]
        refine wp_append_recs (.tmp 13) (.tmp 19) rfl (w.heap.size + 1 + 1) u j _ rfl O2 (some ⟨a7, 0, none⟩) 1 1 [⟨x, false, 0⟩] rfl R7 (by omega) (show w.heap.size + 1 + 1 ≤ v.heap.size from N2.lt) ?_
        intro u8 v8 O8 b8
        have N8 := N2.below b8 (by omega)
        have Z8 := Z2.below b8 (by omega)
        have t8 := t.trans (b8.mono (show w.heap.size ≤ w.heap.size + 1 + 1 by omega))
        have hS8 : v8.cell? ⟨b, off + j, none⟩ = some (.int .u8 (x : Int)) := HC.out _ t8
        refine hK.out _ _ hS8 (fun hS' => ?_)
        clear hK K hS N2 Z2 O2 t b8 R7 hS8
        have hS := hS'
        clear hS'
        obtain ⟨A8, c8, rfl, _⟩ := O8.rs (by rw [← HREC.out, recs0_len, HLT.out])
        try simp only [Act.put, List.getElem_toArray, List.getElem_cons_zero, List.getElem_cons_succ, List.setIfInBounds_toArray, List.set_cons_zero, List.set_cons_succ]
        refine wpAnyH_take (i := 9) (oi := _) (v := ?_) rfl (by kernel_rfl) (by kernel_rfl) (by kernel_rfl) (fun _ _ _ h => h) (Or.inl ⟨by rfl, ?_⟩) hS ?_
        rotate_left
        · (intro w hSw; (try dsimp only at hSw); go_simp; (try with_reducible rfl))
        rotate_left
        simp only [Act.put, List.getElem_toArray, List.getElem_cons_zero, List.getElem_cons_succ, List.setIfInBounds_toArray, List.set_cons_zero, List.set_cons_succ]
        refine wpAnyH_ready (rs := [10]) (by kernel_rfl) (by simp) ?_
        refine AllReadyH.cons rfl (fun K hK => ?_) AllReadyH.nil
        rw [if_pos (by rfl)]
        have fN := N8.free
        have yN := N8.cell
        go_simp
        clear fN yN
        have t9 := Below.setCell (p := ⟨w.heap.size + 1, 4, none⟩) t8 (show w.heap.size ≤ w.heap.size + 1 by omega) (.slice A8 (j + 1) c8)
        have N9 : BoxOf _ (w.heap.size + 1) #[.int .u32 0, .int .u32 1, .int .u32 1, .int .i64 0, .slice A8 (j + 1) c8] 25 := nbox_field N8 4 (.slice A8 (j + 1) c8)
        have Z9 := nbox_else Z8 (show w.heap.size ≠ w.heap.size + 1 by omega) 4 (.slice A8 (j + 1) c8)
        have O9 := OwnR.set O8 (show w.heap.size + 1 < w.heap.size + 1 + 1 by omega) 4 (.slice A8 (j + 1) c8)
        refine hK.out _ _ (HC.out _ t9) (fun hS' => ?_)
        clear hK K hS hS' N8 Z8 O8 t8
        try simp only [Act.put, List.getElem_toArray, List.getElem_cons_zero, List.getElem_cons_succ, List.setIfInBounds_toArray, List.set_cons_zero, List.set_cons_succ]
        refine wpAnyH_done (by kernel_rfl) ?_ _
        go_wp2
        go_roundw
        case rel => exact ⟨j + 1, .slice A8 (j + 1) c8, by omega, by go_num, t9, Z9, N9, by rw [← HREC.out] at O9; exact O9⟩
        case measure => simp [intOf]; omega
    · have hjn : j = n := by omega
      rw [hjn, ← hlen, List.take_length] at O1
      rw [hlen] at O1
      obtain ⟨A', c', rfl, R⟩ := O1.rs (by rw [recs0_len, hlen])
      have z1 := Z1.cell
      have f1 := Z1.free
      have y1 := N1.cell
      have HO := Lib.hid O1
      clear O1 R
      go_wp2
      have B5 : BoxOf _ w.heap.size #[.int .u32 0, .int .u32 1, .int .u32 1, .int .i64 0, .slice A' n c'] 25 := nbox5 Z1 (.int .u32 0) (.int .u32 1) (.int .u32 1) (.int .i64 0) (.slice A' n c')
      have T5 := nbelow5 t (show w.heap.size ≤ w.heap.size by omega) (.int .u32 0) (.int .u32 1) (.int .u32 1) (.int .i64 0) (.slice A' n c')
      have O5 := nown5 HO.out (show w.heap.size < w.heap.size + 1 + 1 by omega) (.int .u32 0) (.int .u32 1) (.int .u32 1) (.int .i64 0) (.slice A' n c')
      exact bodyPost_ret (v := .agg #[.int .u32 0, .int .u32 1, .int .u32 1, .int .i64 0, .slice A' n c']) (results_cell_row rfl _ _ w.heap.size 25 #[.int .u32 0, .int .u32 1, .int .u32 1, .int .i64 0, .slice A' n c'] (0, 0) _ rfl B5 Try.underlying25 rfl (by kernel_rfl)) rfl ⟨A', ⟨c', rfl⟩, O5.rs' (by rw [recs0_len, hlen]), T5⟩

set_option maxRecDepth 100000 in
set_option maxHeartbeats 4000000 in
theorem noteNames_walk (w : World) : Calls Try.prog 6 #[] w fun e w' => e = .returned (.bool true) ∧ Below w.heap.size w w' := by
  have HW := Lib.hid (fun gs W (h : Rs W (some ⟨gs, 0, none⟩) 2 twoR) => nwrite_ok 7 1 2 3 gs 0 2 2 twoR (by decide) (by decide) (by decide) (by decide) (by decide) two_ok W h)
  have HR : Hid (∀ A q W, Bs W A 128 (noteBlock 7 1 2 3 twoR) → Calls Try.prog 13 #[.slice A 128 q] W fun e w' => (∃ A' c', e = .returned (.tuple #[.agg #[.int .u32 7, .int .u32 1, .int .u32 2, .int .i64 3, .slice A' 2 c'], .int .i64 0]) ∧ Rs w' A' 2 twoR) ∧ Below W.heap.size W w') := Lib.hid (fun A q W hW => nread_yes (n := 128) (note_own (id := 7) (age := 1) (sq := 2) (st := 3) (rs := twoR) (by decide) (by decide) two_ok) A q W hW)
  have H0 := Lib.hid (fun W => nread_no (n := 0) (bs := []) (.inl rfl) (fun _ _ _ _ _ h => absurd h.len (by decide)) none 0 W (Bs.nil _ _))
  have H1 := Lib.hid (fun A W => nread_text A 1 1 (by decide) (by decide) W)
  have HS := Lib.hid (fun A' c' gs W hX hY => nsame_any 7 1 2 3 A' 2 c' twoR 7 1 2 3 (some ⟨gs, 0, none⟩) 2 2 twoR true (by simp) (by decide) W hX hY)
  go_enter Try.func6, Try.ntmps6
  go_wp2_with fail
  refine (two_any _).mono ?_
  rintro e w1 ⟨gs, rfl, R1, b1⟩
  go_wp2_with fail
  refine (HW.out _ _ R1).mono ?_
  rintro e w2 ⟨g, rfl, hB, b2⟩
  have t2 := Ext.trans b1 b2
  clear R1 b1 b2
  go_wp2_with fail
  refine (HR.out _ _ _ hB.bs).mono ?_
  rintro e w3 ⟨⟨A', c', rfl, R3⟩, b3⟩
  have R4 : Rs _ A' 2 twoR := R3.alloc (.cells #[.int .u32 7, .int .u32 1, .int .u32 2, .int .i64 3, .slice A' 2 c'] 25)
  have N3 := BoxOf.new w3 #[.int .u32 7, .int .u32 1, .int .u32 2, .int .i64 3, .slice A' 2 c'] 25
  have t3 := Ext.alloc (Ext.trans t2 b3) (.cells #[.int .u32 7, .int .u32 1, .int .u32 2, .int .i64 3, .slice A' 2 c'] 25)
  have l3 : w3.heap.size < (w3.alloc (.cells #[.int .u32 7, .int .u32 1, .int .u32 2, .int .i64 3, .slice A' 2 c'] 25)).heap.size := by simp
  clear t2 b3 hB R3
  obtain ⟨gn, hgn⟩ : ∃ z : Nat, z = w3.heap.size := ⟨_, rfl⟩
  rw [← hgn] at N3
  go_wp2_with fail
  rw [← hgn]
  clear hgn l3
  generalize w3.alloc (.cells #[.int .u32 7, .int .u32 1, .int .u32 2, .int .i64 3, .slice A' 2 c'] 25) = V3 at *
  refine (H0.out _).mono ?_
  rintro e w4 ⟨rfl, b4⟩
  have N4 := (N3.next b4).alloc (.cells #[.int .u32 0, .int .u32 0, .int .u32 0, .int .i64 0, .slice none 0 0] 25)
  have R5 := (R4.below b4).alloc (.cells #[.int .u32 0, .int .u32 0, .int .u32 0, .int .i64 0, .slice none 0 0] 25)
  have t4 := Ext.alloc (Ext.trans t3 b4) (.cells #[.int .u32 0, .int .u32 0, .int .u32 0, .int .i64 0, .slice none 0 0] 25)
  clear N3 R4 t3 b4
  go_wp2_with fail
  refine (H1.out _ _).mono ?_
  rintro e w5 ⟨rfl, b5⟩
  have N5 := ((N4.alloc (.cells #[.int .u8 78] 5)).next b5).alloc (.cells #[.int .u32 0, .int .u32 0, .int .u32 0, .int .i64 0, .slice none 0 0] 25)
  have R6 := ((R5.alloc (.cells #[.int .u8 78] 5)).below b5).alloc (.cells #[.int .u32 0, .int .u32 0, .int .u32 0, .int .i64 0, .slice none 0 0] 25)
  have t5 := Ext.alloc (Ext.trans (Ext.alloc t4 (.cells #[.int .u8 78] 5)) b5) (.cells #[.int .u32 0, .int .u32 0, .int .u32 0, .int .i64 0, .slice none 0 0] 25)
  clear N4 R5 t4 b5
  go_upto_region 5 with fail
  generalize w5.alloc (.cells #[.int .u32 0, .int .u32 0, .int .u32 0, .int .i64 0, .slice none 0 0] 25) = V5 at *
  refine wp_region_held_drew (S := fun w' => BoxOf w' gn #[.int .u32 7, .int .u32 1, .int .u32 2, .int .i64 3, .slice A' 2 c'] 25 ∧ ∀ o, w'.cell? ⟨gn, o, none⟩ = (#[.int .u32 7, .int .u32 1, .int .u32 2, .int .i64 3, .slice A' 2 c'] : Array Value).toList[o]?) (by kernel_rfl) ⟨N5.drew, N5.drew.cell⟩ (fun hS => ?_)
  have N2 := N5.drew
  have Rn : Rs V5.drew A' 2 twoR := R6
  have t := Ext.drew t5
  clear N5 R6 t5
  generalize V5.drew = v at *
  refine wpAnyH_take (i := 0) (oi := _) (v := ?_) rfl (by kernel_rfl) (by kernel_rfl) (by kernel_rfl) (fun _ _ _ h => h) (Or.inl ⟨by rfl, ?_⟩) hS ?_
  rotate_left
  · (intro w hSw; (try dsimp only at hSw); go_simp; (try with_reducible rfl))
  rotate_left
  simp only [Act.put, List.getElem_toArray, List.getElem_cons_zero, List.getElem_cons_succ, List.setIfInBounds_toArray, List.set_cons_zero, List.set_cons_succ]
  refine wpAnyH_ready (rs := [1]) (by kernel_rfl) (by simp) ?_
  refine AllReadyH.cons rfl (fun K hK => ?_) AllReadyH.nil
  rw [if_pos (by rfl)]
  go_simp
  refine (nalive_any _).mono ?_
  rintro e v1 ⟨rfl, b1⟩
  have N3 := N2.next b1
  have Rn3 := Rn.below b1
  have t3 := Ext.trans t b1
  refine hK.out _ _ ⟨hS.1.next b1, (hS.1.next b1).cell⟩ (fun hS' => ?_)
  clear hK K hS N2 Rn t b1
  have hS := hS'
  have N2 := N3
  have Rn := Rn3
  have t := t3
  clear hS' N3 Rn3 t3
  try simp only [Act.put, List.getElem_toArray, List.getElem_cons_zero, List.getElem_cons_succ, List.setIfInBounds_toArray, List.set_cons_zero, List.set_cons_succ]
  refine wpAnyH_take (i := 2) (oi := _) (v := ?_) rfl (by kernel_rfl) (by kernel_rfl) (by kernel_rfl) (fun _ _ _ h => h) (Or.inl ⟨by rfl, ?_⟩) hS ?_
  rotate_left
  · (intro w hSw; (try dsimp only at hSw); go_simp; (try with_reducible rfl))
  rotate_left
  simp only [Act.put, List.getElem_toArray, List.getElem_cons_zero, List.getElem_cons_succ, List.setIfInBounds_toArray, List.set_cons_zero, List.set_cons_succ]
  refine wpAnyH_take (i := 3) (oi := _) (v := ?_) rfl (by kernel_rfl) (by kernel_rfl) (by kernel_rfl) (fun _ _ _ h => h) (Or.inl ⟨by rfl, ?_⟩) hS ?_
  rotate_left
  · (intro w hSw; (try dsimp only at hSw); go_simp; (try with_reducible rfl))
  rotate_left
  simp only [Act.put, List.getElem_toArray, List.getElem_cons_zero, List.getElem_cons_succ, List.setIfInBounds_toArray, List.set_cons_zero, List.set_cons_succ]
  refine wpAnyH_take (i := 4) (oi := _) (v := ?_) rfl (by kernel_rfl) (by kernel_rfl) (by kernel_rfl) (fun _ _ _ h => h) (Or.inl ⟨by rfl, ?_⟩) hS ?_
  rotate_left
  · (intro w hSw; (try dsimp only at hSw); go_simp; (try with_reducible rfl))
  rotate_left
  simp only [Act.put, List.getElem_toArray, List.getElem_cons_zero, List.getElem_cons_succ, List.setIfInBounds_toArray, List.set_cons_zero, List.set_cons_succ]
  refine wpAnyH_take (i := 5) (oi := _) (v := ?_) rfl (by kernel_rfl) (by kernel_rfl) (by kernel_rfl) (fun _ _ _ h => h) (Or.inl ⟨by rfl, ?_⟩) hS ?_
  rotate_left
  · (intro w hSw; (try dsimp only at hSw); go_simp; (try with_reducible rfl))
  rotate_left
  simp only [Act.put, List.getElem_toArray, List.getElem_cons_zero, List.getElem_cons_succ, List.setIfInBounds_toArray, List.set_cons_zero, List.set_cons_succ]
  refine wpAnyH_take (i := 6) (oi := _) (v := ?_) rfl (by kernel_rfl) (by kernel_rfl) (by kernel_rfl) (fun _ _ _ h => h) (Or.inl ⟨by rfl, ?_⟩) hS ?_
  rotate_left
  · (intro w hSw; (try dsimp only at hSw); go_simp; (try with_reducible rfl))
  rotate_left
  simp only [Act.put, List.getElem_toArray, List.getElem_cons_zero, List.getElem_cons_succ, List.setIfInBounds_toArray, List.set_cons_zero, List.set_cons_succ]
  refine wpAnyH_take (i := 7) (oi := _) (v := ?_) rfl (by kernel_rfl) (by kernel_rfl) (by kernel_rfl) (fun _ _ _ h => h) (Or.inl ⟨by rfl, ?_⟩) hS ?_
  rotate_left
  · (intro w hSw; (try dsimp only at hSw); go_simp; (try with_reducible rfl))
  rotate_left
  simp only [Act.put, List.getElem_toArray, List.getElem_cons_zero, List.getElem_cons_succ, List.setIfInBounds_toArray, List.set_cons_zero, List.set_cons_succ]
  refine wpAnyH_take (i := 8) (oi := _) (v := ?_) rfl (by kernel_rfl) (by kernel_rfl) (by kernel_rfl) (fun _ _ _ h => h) (Or.inl ⟨by rfl, ?_⟩) hS ?_
  rotate_left
  · (intro w hSw; (try dsimp only at hSw); go_simp; (try with_reducible rfl))
  rotate_left
  simp only [Act.put, List.getElem_toArray, List.getElem_cons_zero, List.getElem_cons_succ, List.setIfInBounds_toArray, List.set_cons_zero, List.set_cons_succ]
  refine wpAnyH_ready (rs := [9]) (by kernel_rfl) (by simp) ?_
  refine AllReadyH.cons rfl (fun K hK => ?_) AllReadyH.nil
  rw [if_pos (by rfl)]
  go_simp
  refine (two_any _).mono ?_
  rintro e v2 ⟨gs2, rfl, R2, b2⟩
  have N3 := N2.next b2
  have Rn3 := Rn.below b2
  have t3 := Ext.trans t b2
  refine hK.out _ _ ⟨hS.1.next b2, (hS.1.next b2).cell⟩ (fun hS' => ?_)
  clear hK K hS N2 Rn t b2
  have hS := hS'
  have N2 := N3
  have Rn := Rn3
  have t := t3
  clear hS' N3 Rn3 t3
  try simp only [Act.put, List.getElem_toArray, List.getElem_cons_zero, List.getElem_cons_succ, List.setIfInBounds_toArray, List.set_cons_zero, List.set_cons_succ]
  refine wpAnyH_ready (rs := [10]) (by kernel_rfl) (by simp) ?_
  refine AllReadyH.cons rfl (fun K hK => ?_) AllReadyH.nil
  rw [if_pos (by rfl)]
  go_simp
  refine (HS.out _ _ _ _ Rn R2).mono ?_
  rintro e v3 ⟨rfl, b3⟩
  have N3 := N2.next b3
  have Rn3 := Rn.below b3
  have t3 := Ext.trans t b3
  refine hK.out _ _ ⟨hS.1.next b3, (hS.1.next b3).cell⟩ (fun hS' => ?_)
  clear hK K hS N2 Rn t b3 R2
  have hS := hS'
  have N2 := N3
  have Rn := Rn3
  have t := t3
  clear hS' N3 Rn3 t3
  try simp only [Act.put, List.getElem_toArray, List.getElem_cons_zero, List.getElem_cons_succ, List.setIfInBounds_toArray, List.set_cons_zero, List.set_cons_succ]
  refine wpAnyH_take (i := 11) (oi := _) (v := ?_) rfl (by kernel_rfl) (by kernel_rfl) (by kernel_rfl) (fun _ _ _ h => h) (Or.inl ⟨by rfl, ?_⟩) hS ?_
  rotate_left
  · (intro w hSw; (try dsimp only at hSw); go_simp; (try with_reducible rfl))
  rotate_left
  simp only [Act.put, List.getElem_toArray, List.getElem_cons_zero, List.getElem_cons_succ, List.setIfInBounds_toArray, List.set_cons_zero, List.set_cons_succ]
  refine wpAnyH_take (i := 12) (oi := _) (v := ?_) rfl (by kernel_rfl) (by kernel_rfl) (by kernel_rfl) (fun _ _ _ h => h) (Or.inl ⟨by rfl, ?_⟩) hS ?_
  rotate_left
  · (intro w hSw; (try dsimp only at hSw); go_simp; (try with_reducible rfl))
  rotate_left
  simp only [Act.put, List.getElem_toArray, List.getElem_cons_zero, List.getElem_cons_succ, List.setIfInBounds_toArray, List.set_cons_zero, List.set_cons_succ]
  refine wpAnyH_take (i := 13) (oi := _) (v := ?_) rfl (by kernel_rfl) (by kernel_rfl) (by kernel_rfl) (fun _ _ _ h => h) (Or.inl ⟨by rfl, ?_⟩) hS ?_
  rotate_left
  · (intro w hSw; (try dsimp only at hSw); go_simp; (try with_reducible rfl))
  rotate_left
  simp only [Act.put, List.getElem_toArray, List.getElem_cons_zero, List.getElem_cons_succ, List.setIfInBounds_toArray, List.set_cons_zero, List.set_cons_succ]
  refine wpAnyH_take (i := 14) (oi := _) (v := ?_) rfl (by kernel_rfl) (by kernel_rfl) (by kernel_rfl) (fun _ _ _ h => h) (Or.inl ⟨by rfl, ?_⟩) hS ?_
  rotate_left
  · (intro w hSw; (try dsimp only at hSw); go_simp; (try with_reducible rfl))
  rotate_left
  simp only [Act.put, List.getElem_toArray, List.getElem_cons_zero, List.getElem_cons_succ, List.setIfInBounds_toArray, List.set_cons_zero, List.set_cons_succ]
  refine wpAnyH_take (i := 15) (oi := _) (v := ?_) rfl (by kernel_rfl) (by kernel_rfl) (by kernel_rfl) (fun _ _ _ h => h) (Or.inl ⟨by rfl, ?_⟩) hS ?_
  rotate_left
  · (intro w hSw; (try dsimp only at hSw); go_simp; (try with_reducible rfl))
  rotate_left
  simp only [Act.put, List.getElem_toArray, List.getElem_cons_zero, List.getElem_cons_succ, List.setIfInBounds_toArray, List.set_cons_zero, List.set_cons_succ]
  refine wpAnyH_take (i := 16) (oi := _) (v := ?_) rfl (by kernel_rfl) (by kernel_rfl) (by kernel_rfl) (fun _ _ _ h => h) (Or.inl ⟨by rfl, ?_⟩) hS ?_
  rotate_left
  · (intro w hSw; (try dsimp only at hSw); go_simp; (try with_reducible rfl))
  rotate_left
  simp only [Act.put, List.getElem_toArray, List.getElem_cons_zero, List.getElem_cons_succ, List.setIfInBounds_toArray, List.set_cons_zero, List.set_cons_succ]
  refine wpAnyH_take (i := 17) (oi := _) (v := ?_) rfl (by kernel_rfl) (by kernel_rfl) (by kernel_rfl) (fun _ _ _ h => h) (Or.inl ⟨by rfl, ?_⟩) hS ?_
  rotate_left
  · (intro w hSw; (try dsimp only at hSw); go_simp; (try with_reducible rfl))
  rotate_left
  simp only [Act.put, List.getElem_toArray, List.getElem_cons_zero, List.getElem_cons_succ, List.setIfInBounds_toArray, List.set_cons_zero, List.set_cons_succ]
  refine wpAnyH_take (i := 18) (oi := _) (v := ?_) rfl (by kernel_rfl) (by kernel_rfl) (by kernel_rfl) (fun _ _ _ h => h) (Or.inl ⟨by rfl, ?_⟩) hS ?_
  rotate_left
  · (intro w hSw; (try dsimp only at hSw); go_simp; (try with_reducible rfl))
  rotate_left
  simp only [Act.put, List.getElem_toArray, List.getElem_cons_zero, List.getElem_cons_succ, List.setIfInBounds_toArray, List.set_cons_zero, List.set_cons_succ]
  refine wpAnyH_take (i := 19) (oi := _) (v := ?_) rfl (by kernel_rfl) (by kernel_rfl) (by kernel_rfl) (fun _ _ _ h => h) (Or.inl ⟨by rfl, ?_⟩) hS ?_
  rotate_left
  · (intro w hSw; (try dsimp only at hSw); go_simp; (try with_reducible rfl))
  rotate_left
  simp only [Act.put, List.getElem_toArray, List.getElem_cons_zero, List.getElem_cons_succ, List.setIfInBounds_toArray, List.set_cons_zero, List.set_cons_succ]
  refine wpAnyH_take (i := 20) (oi := _) (v := ?_) rfl (by kernel_rfl) (by kernel_rfl) (by kernel_rfl) (fun _ _ _ h => h) (Or.inl ⟨by rfl, ?_⟩) hS ?_
  rotate_left
  · (intro w hSw; (try dsimp only at hSw); go_simp; (try with_reducible rfl))
  rotate_left
  simp only [Act.put, List.getElem_toArray, List.getElem_cons_zero, List.getElem_cons_succ, List.setIfInBounds_toArray, List.set_cons_zero, List.set_cons_succ]
  refine wpAnyH_ready (rs := [21]) (by kernel_rfl) (by simp) ?_
  refine AllReadyH.cons rfl (fun K hK => ?_) AllReadyH.nil
  rw [if_pos (by rfl)]
  go_simp
  refine ((of_any none 0 0 [] (by decide) _ (Bs.nil _ _))).mono ?_
  rintro e v4 ⟨A4, c4, rfl, R4, b4⟩
  have N3 := N2.next b4
  have Rn3 := Rn.below b4
  have t3 := Ext.trans t b4
  refine hK.out _ _ ⟨hS.1.next b4, (hS.1.next b4).cell⟩ (fun hS' => ?_)
  clear hK K hS N2 Rn t b4
  have hS := hS'
  have N2 := N3
  have Rn := Rn3
  have t := t3
  clear hS' N3 Rn3 t3
  try simp only [Act.put, List.getElem_toArray, List.getElem_cons_zero, List.getElem_cons_succ, List.setIfInBounds_toArray, List.set_cons_zero, List.set_cons_succ]
  refine wpAnyH_ready (rs := [22]) (by kernel_rfl) (by simp) ?_
  refine AllReadyH.cons rfl (fun K hK => ?_) AllReadyH.nil
  rw [if_pos (by rfl)]
  go_simp
  refine (ncheck_any 0 1 1 0 A4 0 c4 (recs0 []) (by decide) (by decide) 8 (by decide) _ R4).mono ?_
  rintro e v5 ⟨rfl, b5⟩
  have N3 := N2.next b5
  have Rn3 := Rn.below b5
  have t3 := Ext.trans t b5
  refine hK.out _ _ ⟨hS.1.next b5, (hS.1.next b5).cell⟩ (fun hS' => ?_)
  clear hK K hS N2 Rn t b5 R4
  have hS := hS'
  have N2 := N3
  have Rn := Rn3
  have t := t3
  clear hS' N3 Rn3 t3
  try simp only [Act.put, List.getElem_toArray, List.getElem_cons_zero, List.getElem_cons_succ, List.setIfInBounds_toArray, List.set_cons_zero, List.set_cons_succ]
  refine wpAnyH_take (i := 23) (oi := _) (v := ?_) rfl (by kernel_rfl) (by kernel_rfl) (by kernel_rfl) (fun _ _ _ h => h) (Or.inl ⟨by rfl, ?_⟩) hS ?_
  rotate_left
  · (intro w hSw; (try dsimp only at hSw); go_simp; (try with_reducible rfl))
  rotate_left
  simp only [Act.put, List.getElem_toArray, List.getElem_cons_zero, List.getElem_cons_succ, List.setIfInBounds_toArray, List.set_cons_zero, List.set_cons_succ]
  refine wpAnyH_take (i := 24) (oi := _) (v := ?_) rfl (by kernel_rfl) (by kernel_rfl) (by kernel_rfl) (fun _ _ _ h => h) (Or.inl ⟨by rfl, ?_⟩) hS ?_
  rotate_left
  · (intro w hSw; (try dsimp only at hSw); go_simp; (try with_reducible rfl))
  rotate_left
  simp only [Act.put, List.getElem_toArray, List.getElem_cons_zero, List.getElem_cons_succ, List.setIfInBounds_toArray, List.set_cons_zero, List.set_cons_succ]
  refine wpAnyH_take (i := 25) (oi := _) (v := ?_) rfl (by kernel_rfl) (by kernel_rfl) (by kernel_rfl) (fun _ _ _ h => h) (Or.inl ⟨by rfl, ?_⟩) hS ?_
  rotate_left
  · (intro w hSw; (try dsimp only at hSw); go_simp; (try with_reducible rfl))
  rotate_left
  simp only [Act.put, List.getElem_toArray, List.getElem_cons_zero, List.getElem_cons_succ, List.setIfInBounds_toArray, List.set_cons_zero, List.set_cons_succ]
  refine wpAnyH_ready (rs := [26]) (by kernel_rfl) (by simp) ?_
  refine AllReadyH.cons rfl (fun K hK => ?_) AllReadyH.nil
  rw [if_pos (by rfl)]
  go_simp
  obtain ⟨a5, ha5⟩ : ∃ z : Nat, z = (v5).heap.size := ⟨_, rfl⟩
  have B5 := Bs.new (v5) #[.int .u8 255] 5 (0, 0) 1 [255] rfl rfl
  have b5 := Ext.alloc (Below.refl (v5).heap.size (v5)) (.cells #[.int .u8 255] 5)
  have N3 := N2.next b5
  have Rn3 := Rn.below b5
  have t3 := Ext.trans t b5
  refine hK.out _ _ ⟨hS.1.next b5, (hS.1.next b5).cell⟩ (fun hS' => ?_)
  rw [← ha5] at B5 ⊢
  clear hK K hS N2 Rn t b5 ha5
  have hS := hS'
  have N2 := N3
  have Rn := Rn3
  have t := t3
  clear hS' N3 Rn3 t3
  try simp only [Act.put, List.getElem_toArray, List.getElem_cons_zero, List.getElem_cons_succ, List.setIfInBounds_toArray, List.set_cons_zero, List.set_cons_succ]
  generalize (v5).alloc (.cells #[.int .u8 255] 5) = v5a at *
  refine wpAnyH_ready (rs := [27]) (by kernel_rfl) (by simp) ?_
  refine AllReadyH.cons rfl (fun K hK => ?_) AllReadyH.nil
  rw [if_pos (by rfl)]
  go_simp
  refine ((of_any (some ⟨a5, 0, none⟩) 1 1 [255] (by decide) _ B5)).mono ?_
  rintro e v4 ⟨A4, c4, rfl, R4, b4⟩
  have N3 := N2.next b4
  have Rn3 := Rn.below b4
  have t3 := Ext.trans t b4
  refine hK.out _ _ ⟨hS.1.next b4, (hS.1.next b4).cell⟩ (fun hS' => ?_)
  clear hK K hS N2 Rn t b4
  have hS := hS'
  have N2 := N3
  have Rn := Rn3
  have t := t3
  clear hS' N3 Rn3 t3
  try simp only [Act.put, List.getElem_toArray, List.getElem_cons_zero, List.getElem_cons_succ, List.setIfInBounds_toArray, List.set_cons_zero, List.set_cons_succ]
  refine wpAnyH_ready (rs := [28]) (by kernel_rfl) (by simp) ?_
  refine AllReadyH.cons rfl (fun K hK => ?_) AllReadyH.nil
  rw [if_pos (by rfl)]
  go_simp
  refine (ncheck_any 0 1 1 0 A4 1 c4 (recs0 [255]) (by decide) (by decide) 8 (by decide) _ R4).mono ?_
  rintro e v5 ⟨rfl, b5⟩
  have N3 := N2.next b5
  have Rn3 := Rn.below b5
  have t3 := Ext.trans t b5
  refine hK.out _ _ ⟨hS.1.next b5, (hS.1.next b5).cell⟩ (fun hS' => ?_)
  clear hK K hS N2 Rn t b5 R4
  have hS := hS'
  have N2 := N3
  have Rn := Rn3
  have t := t3
  clear hS' N3 Rn3 t3
  try simp only [Act.put, List.getElem_toArray, List.getElem_cons_zero, List.getElem_cons_succ, List.setIfInBounds_toArray, List.set_cons_zero, List.set_cons_succ]
  refine wpAnyH_take (i := 29) (oi := _) (v := ?_) rfl (by kernel_rfl) (by kernel_rfl) (by kernel_rfl) (fun _ _ _ h => h) (Or.inl ⟨by rfl, ?_⟩) hS ?_
  rotate_left
  · (intro w hSw; (try dsimp only at hSw); go_simp; (try with_reducible rfl))
  rotate_left
  simp only [Act.put, List.getElem_toArray, List.getElem_cons_zero, List.getElem_cons_succ, List.setIfInBounds_toArray, List.set_cons_zero, List.set_cons_succ]
  refine wpAnyH_take (i := 30) (oi := _) (v := ?_) rfl (by kernel_rfl) (by kernel_rfl) (by kernel_rfl) (fun _ _ _ h => h) (Or.inl ⟨by rfl, ?_⟩) hS ?_
  rotate_left
  · (intro w hSw; (try dsimp only at hSw); go_simp; (try with_reducible rfl))
  rotate_left
  simp only [Act.put, List.getElem_toArray, List.getElem_cons_zero, List.getElem_cons_succ, List.setIfInBounds_toArray, List.set_cons_zero, List.set_cons_succ]
  refine wpAnyH_take (i := 31) (oi := _) (v := ?_) rfl (by kernel_rfl) (by kernel_rfl) (by kernel_rfl) (fun _ _ _ h => h) (Or.inl ⟨by rfl, ?_⟩) hS ?_
  rotate_left
  · (intro w hSw; (try dsimp only at hSw); go_simp; (try with_reducible rfl))
  rotate_left
  simp only [Act.put, List.getElem_toArray, List.getElem_cons_zero, List.getElem_cons_succ, List.setIfInBounds_toArray, List.set_cons_zero, List.set_cons_succ]
  refine wpAnyH_ready (rs := [32]) (by kernel_rfl) (by simp) ?_
  refine AllReadyH.cons rfl (fun K hK => ?_) AllReadyH.nil
  rw [if_pos (by rfl)]
  go_simp
  obtain ⟨a5, ha5⟩ : ∃ z : Nat, z = (v5).heap.size := ⟨_, rfl⟩
  have B5 := Bs.new (v5) #[.int .u8 1, .int .u8 1] 5 (0, 0) 2 [1, 1] rfl rfl
  have b5 := Ext.alloc (Below.refl (v5).heap.size (v5)) (.cells #[.int .u8 1, .int .u8 1] 5)
  have N3 := N2.next b5
  have Rn3 := Rn.below b5
  have t3 := Ext.trans t b5
  refine hK.out _ _ ⟨hS.1.next b5, (hS.1.next b5).cell⟩ (fun hS' => ?_)
  rw [← ha5] at B5 ⊢
  clear hK K hS N2 Rn t b5 ha5
  have hS := hS'
  have N2 := N3
  have Rn := Rn3
  have t := t3
  clear hS' N3 Rn3 t3
  try simp only [Act.put, List.getElem_toArray, List.getElem_cons_zero, List.getElem_cons_succ, List.setIfInBounds_toArray, List.set_cons_zero, List.set_cons_succ]
  generalize (v5).alloc (.cells #[.int .u8 1, .int .u8 1] 5) = v5a at *
  refine wpAnyH_ready (rs := [33]) (by kernel_rfl) (by simp) ?_
  refine AllReadyH.cons rfl (fun K hK => ?_) AllReadyH.nil
  rw [if_pos (by rfl)]
  go_simp
  refine ((of_any (some ⟨a5, 0, none⟩) 2 2 [1, 1] (by decide) _ B5)).mono ?_
  rintro e v4 ⟨A4, c4, rfl, R4, b4⟩
  have N3 := N2.next b4
  have Rn3 := Rn.below b4
  have t3 := Ext.trans t b4
  refine hK.out _ _ ⟨hS.1.next b4, (hS.1.next b4).cell⟩ (fun hS' => ?_)
  clear hK K hS N2 Rn t b4
  have hS := hS'
  have N2 := N3
  have Rn := Rn3
  have t := t3
  clear hS' N3 Rn3 t3
  try simp only [Act.put, List.getElem_toArray, List.getElem_cons_zero, List.getElem_cons_succ, List.setIfInBounds_toArray, List.set_cons_zero, List.set_cons_succ]
  refine wpAnyH_ready (rs := [34]) (by kernel_rfl) (by simp) ?_
  refine AllReadyH.cons rfl (fun K hK => ?_) AllReadyH.nil
  rw [if_pos (by rfl)]
  go_simp
  refine (ncheck_any 0 1 1 0 A4 2 c4 (recs0 [1, 1]) (by decide) (by decide) 8 (by decide) _ R4).mono ?_
  rintro e v5 ⟨rfl, b5⟩
  have N3 := N2.next b5
  have Rn3 := Rn.below b5
  have t3 := Ext.trans t b5
  refine hK.out _ _ ⟨hS.1.next b5, (hS.1.next b5).cell⟩ (fun hS' => ?_)
  clear hK K hS N2 Rn t b5 R4
  have hS := hS'
  have N2 := N3
  have Rn := Rn3
  have t := t3
  clear hS' N3 Rn3 t3
  try simp only [Act.put, List.getElem_toArray, List.getElem_cons_zero, List.getElem_cons_succ, List.setIfInBounds_toArray, List.set_cons_zero, List.set_cons_succ]
  refine wpAnyH_take (i := 35) (oi := _) (v := ?_) rfl (by kernel_rfl) (by kernel_rfl) (by kernel_rfl) (fun _ _ _ h => h) (Or.inl ⟨by rfl, ?_⟩) hS ?_
  rotate_left
  · (intro w hSw; (try dsimp only at hSw); go_simp; (try with_reducible rfl))
  rotate_left
  simp only [Act.put, List.getElem_toArray, List.getElem_cons_zero, List.getElem_cons_succ, List.setIfInBounds_toArray, List.set_cons_zero, List.set_cons_succ]
  refine wpAnyH_take (i := 36) (oi := _) (v := ?_) rfl (by kernel_rfl) (by kernel_rfl) (by kernel_rfl) (fun _ _ _ h => h) (Or.inl ⟨by rfl, ?_⟩) hS ?_
  rotate_left
  · (intro w hSw; (try dsimp only at hSw); go_simp; (try with_reducible rfl))
  rotate_left
  simp only [Act.put, List.getElem_toArray, List.getElem_cons_zero, List.getElem_cons_succ, List.setIfInBounds_toArray, List.set_cons_zero, List.set_cons_succ]
  refine wpAnyH_take (i := 37) (oi := _) (v := ?_) rfl (by kernel_rfl) (by kernel_rfl) (by kernel_rfl) (fun _ _ _ h => h) (Or.inl ⟨by rfl, ?_⟩) hS ?_
  rotate_left
  · (intro w hSw; (try dsimp only at hSw); go_simp; (try with_reducible rfl))
  rotate_left
  simp only [Act.put, List.getElem_toArray, List.getElem_cons_zero, List.getElem_cons_succ, List.setIfInBounds_toArray, List.set_cons_zero, List.set_cons_succ]
  refine wpAnyH_ready (rs := [38]) (by kernel_rfl) (by simp) ?_
  refine AllReadyH.cons rfl (fun K hK => ?_) AllReadyH.nil
  rw [if_pos (by rfl)]
  go_simp
  obtain ⟨a5, ha5⟩ : ∃ z : Nat, z = (v5).heap.size := ⟨_, rfl⟩
  have B5 := Bs.new (v5) #[.int .u8 15] 5 (0, 0) 1 [15] rfl rfl
  have b5 := Ext.alloc (Below.refl (v5).heap.size (v5)) (.cells #[.int .u8 15] 5)
  have N3 := N2.next b5
  have Rn3 := Rn.below b5
  have t3 := Ext.trans t b5
  refine hK.out _ _ ⟨hS.1.next b5, (hS.1.next b5).cell⟩ (fun hS' => ?_)
  rw [← ha5] at B5 ⊢
  clear hK K hS N2 Rn t b5 ha5
  have hS := hS'
  have N2 := N3
  have Rn := Rn3
  have t := t3
  clear hS' N3 Rn3 t3
  try simp only [Act.put, List.getElem_toArray, List.getElem_cons_zero, List.getElem_cons_succ, List.setIfInBounds_toArray, List.set_cons_zero, List.set_cons_succ]
  generalize (v5).alloc (.cells #[.int .u8 15] 5) = v5a at *
  refine wpAnyH_ready (rs := [39]) (by kernel_rfl) (by simp) ?_
  refine AllReadyH.cons rfl (fun K hK => ?_) AllReadyH.nil
  rw [if_pos (by rfl)]
  go_simp
  refine ((of_any (some ⟨a5, 0, none⟩) 1 1 [15] (by decide) _ B5)).mono ?_
  rintro e v4 ⟨A4, c4, rfl, R4, b4⟩
  have N3 := N2.next b4
  have Rn3 := Rn.below b4
  have t3 := Ext.trans t b4
  refine hK.out _ _ ⟨hS.1.next b4, (hS.1.next b4).cell⟩ (fun hS' => ?_)
  clear hK K hS N2 Rn t b4
  have hS := hS'
  have N2 := N3
  have Rn := Rn3
  have t := t3
  clear hS' N3 Rn3 t3
  try simp only [Act.put, List.getElem_toArray, List.getElem_cons_zero, List.getElem_cons_succ, List.setIfInBounds_toArray, List.set_cons_zero, List.set_cons_succ]
  refine wpAnyH_ready (rs := [40]) (by kernel_rfl) (by simp) ?_
  refine AllReadyH.cons rfl (fun K hK => ?_) AllReadyH.nil
  rw [if_pos (by rfl)]
  go_simp
  refine (ncheck_any 0 1 1 0 A4 1 c4 (recs0 [15]) (by decide) (by decide) 8 (by decide) _ R4).mono ?_
  rintro e v5 ⟨rfl, b5⟩
  have N3 := N2.next b5
  have Rn3 := Rn.below b5
  have t3 := Ext.trans t b5
  refine hK.out _ _ ⟨hS.1.next b5, (hS.1.next b5).cell⟩ (fun hS' => ?_)
  clear hK K hS N2 Rn t b5 R4
  have hS := hS'
  have N2 := N3
  have Rn := Rn3
  have t := t3
  clear hS' N3 Rn3 t3
  try simp only [Act.put, List.getElem_toArray, List.getElem_cons_zero, List.getElem_cons_succ, List.setIfInBounds_toArray, List.set_cons_zero, List.set_cons_succ]
  refine wpAnyH_take (i := 41) (oi := _) (v := ?_) rfl (by kernel_rfl) (by kernel_rfl) (by kernel_rfl) (fun _ _ _ h => h) (Or.inl ⟨by rfl, ?_⟩) hS ?_
  rotate_left
  · (intro w hSw; (try dsimp only at hSw); go_simp; (try with_reducible rfl))
  rotate_left
  simp only [Act.put, List.getElem_toArray, List.getElem_cons_zero, List.getElem_cons_succ, List.setIfInBounds_toArray, List.set_cons_zero, List.set_cons_succ]
  refine wpAnyH_take (i := 42) (oi := _) (v := ?_) rfl (by kernel_rfl) (by kernel_rfl) (by kernel_rfl) (fun _ _ _ h => h) (Or.inl ⟨by rfl, ?_⟩) hS ?_
  rotate_left
  · (intro w hSw; (try dsimp only at hSw); go_simp; (try with_reducible rfl))
  rotate_left
  simp only [Act.put, List.getElem_toArray, List.getElem_cons_zero, List.getElem_cons_succ, List.setIfInBounds_toArray, List.set_cons_zero, List.set_cons_succ]
  refine wpAnyH_take (i := 43) (oi := _) (v := ?_) rfl (by kernel_rfl) (by kernel_rfl) (by kernel_rfl) (fun _ _ _ h => h) (Or.inl ⟨by rfl, ?_⟩) hS ?_
  rotate_left
  · (intro w hSw; (try dsimp only at hSw); go_simp; (try with_reducible rfl))
  rotate_left
  simp only [Act.put, List.getElem_toArray, List.getElem_cons_zero, List.getElem_cons_succ, List.setIfInBounds_toArray, List.set_cons_zero, List.set_cons_succ]
  refine wpAnyH_ready (rs := [44]) (by kernel_rfl) (by simp) ?_
  refine AllReadyH.cons rfl (fun K hK => ?_) AllReadyH.nil
  rw [if_pos (by rfl)]
  go_simp
  obtain ⟨a5, ha5⟩ : ∃ z : Nat, z = (v5).heap.size := ⟨_, rfl⟩
  have B5 := Bs.new (v5) #[.int .u8 14, .int .u8 255] 5 (0, 0) 2 [14, 255] rfl rfl
  have b5 := Ext.alloc (Below.refl (v5).heap.size (v5)) (.cells #[.int .u8 14, .int .u8 255] 5)
  have N3 := N2.next b5
  have Rn3 := Rn.below b5
  have t3 := Ext.trans t b5
  refine hK.out _ _ ⟨hS.1.next b5, (hS.1.next b5).cell⟩ (fun hS' => ?_)
  rw [← ha5] at B5 ⊢
  clear hK K hS N2 Rn t b5 ha5
  have hS := hS'
  have N2 := N3
  have Rn := Rn3
  have t := t3
  clear hS' N3 Rn3 t3
  try simp only [Act.put, List.getElem_toArray, List.getElem_cons_zero, List.getElem_cons_succ, List.setIfInBounds_toArray, List.set_cons_zero, List.set_cons_succ]
  generalize (v5).alloc (.cells #[.int .u8 14, .int .u8 255] 5) = v5a at *
  refine wpAnyH_ready (rs := [45]) (by kernel_rfl) (by simp) ?_
  refine AllReadyH.cons rfl (fun K hK => ?_) AllReadyH.nil
  rw [if_pos (by rfl)]
  go_simp
  refine ((of_any (some ⟨a5, 0, none⟩) 2 2 [14, 255] (by decide) _ B5)).mono ?_
  rintro e v4 ⟨A4, c4, rfl, R4, b4⟩
  have N3 := N2.next b4
  have Rn3 := Rn.below b4
  have t3 := Ext.trans t b4
  refine hK.out _ _ ⟨hS.1.next b4, (hS.1.next b4).cell⟩ (fun hS' => ?_)
  clear hK K hS N2 Rn t b4
  have hS := hS'
  have N2 := N3
  have Rn := Rn3
  have t := t3
  clear hS' N3 Rn3 t3
  try simp only [Act.put, List.getElem_toArray, List.getElem_cons_zero, List.getElem_cons_succ, List.setIfInBounds_toArray, List.set_cons_zero, List.set_cons_succ]
  refine wpAnyH_ready (rs := [46]) (by kernel_rfl) (by simp) ?_
  refine AllReadyH.cons rfl (fun K hK => ?_) AllReadyH.nil
  rw [if_pos (by rfl)]
  go_simp
  refine (ncheck_any 0 1 1 0 A4 2 c4 (recs0 [14, 255]) (by decide) (by decide) 0 (by decide) _ R4).mono ?_
  rintro e v5 ⟨rfl, b5⟩
  have N3 := N2.next b5
  have Rn3 := Rn.below b5
  have t3 := Ext.trans t b5
  refine hK.out _ _ ⟨hS.1.next b5, (hS.1.next b5).cell⟩ (fun hS' => ?_)
  clear hK K hS N2 Rn t b5 R4
  have hS := hS'
  have N2 := N3
  have Rn := Rn3
  have t := t3
  clear hS' N3 Rn3 t3
  try simp only [Act.put, List.getElem_toArray, List.getElem_cons_zero, List.getElem_cons_succ, List.setIfInBounds_toArray, List.set_cons_zero, List.set_cons_succ]
  refine wpAnyH_take (i := 47) (oi := _) (v := ?_) rfl (by kernel_rfl) (by kernel_rfl) (by kernel_rfl) (fun _ _ _ h => h) (Or.inl ⟨by rfl, ?_⟩) hS ?_
  rotate_left
  · (intro w hSw; (try dsimp only at hSw); go_simp; (try with_reducible rfl))
  rotate_left
  simp only [Act.put, List.getElem_toArray, List.getElem_cons_zero, List.getElem_cons_succ, List.setIfInBounds_toArray, List.set_cons_zero, List.set_cons_succ]
  refine wpAnyH_take (i := 48) (oi := _) (v := ?_) rfl (by kernel_rfl) (by kernel_rfl) (by kernel_rfl) (fun _ _ _ h => h) (Or.inl ⟨by rfl, ?_⟩) hS ?_
  rotate_left
  · (intro w hSw; (try dsimp only at hSw); go_simp; (try with_reducible rfl))
  rotate_left
  simp only [Act.put, List.getElem_toArray, List.getElem_cons_zero, List.getElem_cons_succ, List.setIfInBounds_toArray, List.set_cons_zero, List.set_cons_succ]
  refine wpAnyH_take (i := 49) (oi := _) (v := ?_) rfl (by kernel_rfl) (by kernel_rfl) (by kernel_rfl) (fun _ _ _ h => h) (Or.inl ⟨by rfl, ?_⟩) hS ?_
  rotate_left
  · (intro w hSw; (try dsimp only at hSw); go_simp; (try with_reducible rfl))
  rotate_left
  simp only [Act.put, List.getElem_toArray, List.getElem_cons_zero, List.getElem_cons_succ, List.setIfInBounds_toArray, List.set_cons_zero, List.set_cons_succ]
  refine wpAnyH_done (by kernel_rfl) ?_ _
  clear hS
  go_wp2
  go_ret
  exact ⟨rfl, t⟩
end Go.Proofs.Ytggdfecgkhnkkaa
