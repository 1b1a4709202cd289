/- Layer 11 (note): the reference's Read. -/
import Derived.Test.YtggdfecgkhnkkaaNoteRef2
import Derived.Test.YtggdfecgkhnkkaaPackRef
namespace Go.Proofs.Ytggdfecgkhnkkaa
open Go Go.RowKit
set_option linter.unusedSimpArgs false
set_option linter.unusedVariables false

theorem pad_whole {bs : List UInt8} {n : Nat} (hl : bs.length = n) (hn : n = 0 ∨ n = 128) : pad bs = wholeL bs := by
  rcases hn with h | h
  · have : bs = [] := List.eq_nil_of_length_eq_zero (by omega)
    subst this
    exact pad_nil
  · rw [wholeL_full (by omega)]
    unfold pad
    rw [hl, h]
    simp
theorem Bs.lt' {w : World} {g : Nat} {bs : List UInt8} (h : Bs w (some ⟨g, 0, none⟩) 128 bs) : g < w.heap.size := by
  obtain ⟨b, off, e, h1, _⟩ := h.addr (by decide)
  injection e with e
  injection e with e1 e2
  subst e1
  exact h1
theorem Bs.at {w : World} {g : Nat} {bs : List UInt8} (h : Bs w (some ⟨g, 0, none⟩) 128 bs) (j : Nat) (hj : j < 128) (x : Nat) (hx : x = takeN bs j 1) : w.cell? ⟨g, j, none⟩ = some (.int .u8 (x : Int)) := by
  obtain ⟨b, off, e, _, h2⟩ := h.addr (by decide)
  injection e with e
  injection e with e1 e2
  subst e1 e2
  have hl : j < bs.length := by rw [h.1]; exact hj
  have h3 := h2 j hl
  rw [Nat.zero_add] at h3
  rw [h3, hx, takeN_one]
  simp [hl]

theorem Bs.setOther {w : World} {g k n : Nat} {bs : List UInt8} (h : Bs w (some ⟨g, 0, none⟩) n bs) (hk : g ≠ k) (i : Nat) (u : Value) : Bs (w.setCell ⟨k, i, none⟩ u) (some ⟨g, 0, none⟩) n bs := by
  refine ⟨h.1, ?_⟩
  rcases h.2 with h2 | ⟨b, o, hA, hc⟩
  · exact .inl h2
  · injection hA with hA
    injection hA with e1 e2
    subst e1 e2
    refine .inr ⟨g, 0, rfl, fun j hj => ?_⟩
    rw [← hc j hj]
    exact World.cell?_of_block (w := w) (a := ⟨g, 0 + j, none⟩) (Below.heap_setCell _ _ _ _ hk)
theorem Rd.keep0 {w w' : World} {g : Nat} {xs : List Value} (h : Rd w (some ⟨g, 0, none⟩) xs) (hk : ∀ o, w'.cell? ⟨g, o, none⟩ = w.cell? ⟨g, o, none⟩) : Rd w' (some ⟨g, 0, none⟩) xs := by
  rcases h with h | ⟨b, off, hA, h⟩
  · exact .inl h
  · injection hA with hA
    injection hA with e1 e2
    subst e1 e2
    exact .inr ⟨g, 0, rfl, fun j hj => by rw [hk]; exact h j hj⟩
theorem nbs5 {W : World} {g k n : Nat} {bs : List UInt8} (h : Bs W (some ⟨g, 0, none⟩) n bs) (hk : g ≠ k) (a b c d e : Value) : Bs (((((W.setCell ⟨k, 0, none⟩ a).setCell ⟨k, 1, none⟩ b).setCell ⟨k, 2, none⟩ c).setCell ⟨k, 3, none⟩ d).setCell ⟨k, 4, none⟩ e) (some ⟨g, 0, none⟩) n bs :=
  ((((h.setOther hk 0 a).setOther hk 1 b).setOther hk 2 c).setOther hk 3 d).setOther hk 4 e
theorem nelse5 {W : World} {g k : Nat} {cs : Array Value} {t : TypeId} (h : BoxOf W g cs t) (hk : g ≠ k) (a b c d e : Value) : BoxOf (((((W.setCell ⟨k, 0, none⟩ a).setCell ⟨k, 1, none⟩ b).setCell ⟨k, 2, none⟩ c).setCell ⟨k, 3, none⟩ d).setCell ⟨k, 4, none⟩ e) g cs t :=
  nbox_else (nbox_else (nbox_else (nbox_else (nbox_else h hk 0 a) hk 1 b) hk 2 c) hk 3 d) hk 4 e
set_option maxRecDepth 100000 in
set_option maxHeartbeats 4000000 in
theorem rnread_core (A : Option Addr) (n q : Nat) (bs : List UInt8) (hn : n = 0 ∨ n = 128) (id age sq st mm m : Nat) (rs : List NRec) (h1 : id = takeN (wholeL bs) 1 4) (h2 : age = takeN (wholeL bs) 5 4) (h3 : sq = takeN (wholeL bs) 9 4) (h4 : st = takeN (wholeL bs) 13 1) (h5 : mm = takeN (wholeL bs) 14 1) (h6 : m = min mm 16) (h7 : rs = rdRs (wholeL bs) m)
    (bad : Bool) (hbad : (bad = true ∧ (noteB age sq (st : Int) rs = false ∨ (noteB age sq (st : Int) rs = true ∧ noteBlock id age sq st rs ≠ wholeL bs))) ∨ (bad = false ∧ noteB age sq (st : Int) rs = true ∧ noteBlock id age sq st rs = wholeL bs)) (w : World) (hb : Bs w A n bs) :
    Calls Try.prog 18 #[.slice A n q] w fun e w' => ((bad = true ∧ e = .returned (.tuple #[.agg #[.int .u32 0, .int .u32 0, .int .u32 0, .int .i64 0, .slice none 0 0], .int .i64 90])) ∨ (bad = false ∧ ∃ A' c', e = .returned (.tuple #[.agg #[.int .u32 (id : Int), .int .u32 (age : Int), .int .u32 (sq : Int), .int .i64 (st : Int), .slice A' m c'], .int .i64 0]) ∧ Rs w' A' m rs)) ∧ Below w.heap.size w w' := by
  have hlen := hb.1
  have HWH := Lib.hid (fun W hW => rwhole_pad A n q bs (by omega) W hW)
  rw [pad_whole hlen hn] at HWH
  have hBl : (wholeL bs).length = 128 := wholeL_len hlen hn
  have HN : Hid (∀ (gB p x : Nat) (pi : Int), pi = (p : Int) → p + 4 ≤ 128 → x = takeN (wholeL bs) p 4 → ∀ W, Bs W (some ⟨gB, 0, none⟩) 128 (wholeL bs) → Calls Try.prog 31 #[.slice (some ⟨gB, 0, none⟩) 128 128, .int .i64 pi] W fun e w' => e = .returned (.int .u32 (x : Int)) ∧ Below W.heap.size W w') := fun gB p x pi hpi hp hx W hW => by
    subst hpi
    have h := rnum_any (some ⟨gB, 0, none⟩) 128 128 (wholeL bs) (.inr rfl) p hp W hW
    rw [wholeL_full hBl, ← hx] at h
    exact h
  have HBK := Lib.hid (fun W => block_ok A n q hn W)
  have HB := Lib.hid hb
  have l1 : id < 4294967296 := by rw [h1]; exact takeN_lt _ 1 4
  have l2 : age < 4294967296 := by rw [h2]; exact takeN_lt _ 5 4
  have l3 : sq < 4294967296 := by rw [h3]; exact takeN_lt _ 9 4
  have l4 : st < 256 := by rw [h4]; exact takeN_lt _ 13 1
  have l5 : mm < 256 := by rw [h5]; exact takeN_lt _ 14 1
  have G1 := Lib.hid h1
  have G2 := Lib.hid h2
  have G3 := Lib.hid h3
  have G4 := Lib.hid h4
  have G5 := Lib.hid h5
  have G6 := Lib.hid h6
  have G7 := Lib.hid h7
  have HBAD := Lib.hid hbad
  have hm16 : m ≤ 16 := by rw [h6]; omega
  have hmm1 : m ≤ mm := by rw [h6]; omega
  have hmm2 : m < mm → m = 16 := by rw [h6]; omega
  have HM2 := Lib.hid hmm2
  clear hmm2
  have HRL : Hid (rs.length = m) := by show _ = _; rw [h7, rdRs_len]
  have hrb : ∀ r ∈ rs, r.sl < 256 ∧ r.su < 4294967296 := by rw [h7]; exact rdRs_bounds _ _
  have HM := Lib.hid (fun A' c' W h => rnmay_any id age sq (st : Int) A' m c' rs (by omega) (fun r hr => (hrb r hr).1) W h)
  have HBK2 := Lib.hid (fun A' c' W h => rnblock_any id age sq st A' m c' rs l1 l2 l3 l4 hm16 hrb W h)
  clear h1 h2 h3 h4 h5 h6 h7 hb hbad hn hrb
  generalize hBB : wholeL bs = B at *
  have Z0 := BoxOf.new w #[.int .u32 0, .int .u32 0, .int .u32 0, .int .i64 0, .slice none 0 0] 25
  have t0 := Ext.alloc (Below.refl w.heap.size w) (.cells #[.int .u32 0, .int .u32 0, .int .u32 0, .int .i64 0, .slice none 0 0] 25)
  go_enter Try.func18, Try.ntmps18
  go_wp2_with fail
  refine (HBK.out _).mono ?_
  rintro e w1 ⟨rfl, rfl⟩
  go_wp2_with fail
  refine (HWH.out _ (HB.out.below t0)).mono ?_
  rintro e w2 ⟨gB, rfl, hgB, own, b2⟩
  have hb2 := own.bs
  have Z2 := Z0.next b2
  have t2 := Ext.trans t0 b2
  have lB : w.heap.size < gB := Nat.lt_of_lt_of_le Z0.lt hgB
  clear Z0 t0 b2 own hgB
  go_upto_region 4 with fail
  have c13 := hb2.at 13 (by decide) st G4.out
  have q1 : IntKind.i64.wrap (st : Int) = (st : Int) := i64_fit (by omega)
  go_cut [5] (fun s wx => ∃ g5, s = .pointer (some ⟨g5, 0, none⟩) ∧ gB < g5 ∧ w.heap.size < g5 ∧ BoxOf wx g5 #[.int .u32 (id : Int), .int .u32 (age : Int), .int .u32 (sq : Int), .int .i64 (st : Int), .slice none 0 0] 25 ∧ BoxOf wx w.heap.size #[.int .u32 0, .int .u32 0, .int .u32 0, .int .i64 0, .slice none 0 0] 25 ∧ Bs wx (some ⟨gB, 0, none⟩) 128 B ∧ Below w.heap.size w wx)
  case first =>
    refine wp_region_held_drew (S := fun w' => w'.cell? ⟨gB, 13, none⟩ = some (.int .u8 (st : Int))) (by kernel_rfl) c13 (fun hS => ?_)
    have Z4 := Z2.drew
    have hb4 : Bs w2.drew (some ⟨gB, 0, none⟩) 128 B := hb2
    have t4 := Ext.drew t2
    clear Z2 hb2 t2 c13
    generalize w2.drew = v at *
    refine wpAnyH_take (i := 0) (oi := _) (v := ?_) rfl (by kernel_rfl) (by kernel_rfl) (by kernel_rfl) (fun _ _ _ h => h) (Or.inl ⟨by rfl, ?_⟩) hS ?_
    rotate_left
    · (intro w hSw; (try dsimp only at hSw); go_simp; (try with_reducible rfl))
    rotate_left
    simp only [Act.put, List.getElem_toArray, List.getElem_cons_zero, List.getElem_cons_succ, List.setIfInBounds_toArray, List.set_cons_zero, List.set_cons_succ]
    refine wpAnyH_take (i := 2) (oi := _) (v := ?_) rfl (by kernel_rfl) (by kernel_rfl) (by kernel_rfl) (fun _ _ _ h => h) (Or.inl ⟨by rfl, ?_⟩) hS ?_
    rotate_left
    · (intro w hSw; (try dsimp only at hSw); go_simp; (try with_reducible rfl))
    rotate_left
    simp only [Act.put, List.getElem_toArray, List.getElem_cons_zero, List.getElem_cons_succ, List.setIfInBounds_toArray, List.set_cons_zero, List.set_cons_succ]
    refine wpAnyH_take (i := 4) (oi := _) (v := ?_) rfl (by kernel_rfl) (by kernel_rfl) (by kernel_rfl) (fun _ _ _ h => h) (Or.inl ⟨by rfl, ?_⟩) hS ?_
    rotate_left
    · (intro w hSw; (try dsimp only at hSw); go_simp; (try with_reducible rfl))
    rotate_left
    simp only [Act.put, List.getElem_toArray, List.getElem_cons_zero, List.getElem_cons_succ, List.setIfInBounds_toArray, List.set_cons_zero, List.set_cons_succ]
    refine wpAnyH_take (i := 6) (oi := _) (v := ?_) rfl (by kernel_rfl) (by kernel_rfl) (by kernel_rfl) (fun _ _ _ h => h) (Or.inl ⟨by rfl, ?_⟩) hS ?_
    rotate_left
    · (intro w hSw; (try dsimp only at hSw); go_simp; (try with_reducible rfl))
    rotate_left
    simp only [Act.put, List.getElem_toArray, List.getElem_cons_zero, List.getElem_cons_succ, List.setIfInBounds_toArray, List.set_cons_zero, List.set_cons_succ]
    refine wpAnyH_take (i := 7) (oi := _) (v := ?_) rfl (by kernel_rfl) (by kernel_rfl) (by kernel_rfl) (fun _ _ _ h => h) (Or.inl ⟨by rfl, ?_⟩) hS ?_
    rotate_left
    · (intro w hSw; (try dsimp only at hSw); go_simp; (try with_reducible rfl))
    rotate_left
    simp only [Act.put, List.getElem_toArray, List.getElem_cons_zero, List.getElem_cons_succ, List.setIfInBounds_toArray, List.set_cons_zero, List.set_cons_succ]
    refine wpAnyH_take (i := 8) (oi := _) (v := ?_) rfl (by kernel_rfl) (by kernel_rfl) (by kernel_rfl) (fun _ _ _ h => h) (Or.inl ⟨by rfl, ?_⟩) hS ?_
    rotate_left
    · (intro w hSw; (try dsimp only at hSw); go_simp; (try with_reducible rfl))
    rotate_left
    simp only [Act.put, List.getElem_toArray, List.getElem_cons_zero, List.getElem_cons_succ, List.setIfInBounds_toArray, List.set_cons_zero, List.set_cons_succ]
    refine wpAnyH_take (i := 9) (oi := _) (v := ?_) rfl (by kernel_rfl) (by kernel_rfl) (by kernel_rfl) (fun _ _ _ h => h) (Or.inl ⟨by rfl, ?_⟩) hS ?_
    rotate_left
    · (intro w hSw; (try dsimp only at hSw); go_simp; (try with_reducible rfl))
    rotate_left
    simp only [Act.put, List.getElem_toArray, List.getElem_cons_zero, List.getElem_cons_succ, List.setIfInBounds_toArray, List.set_cons_zero, List.set_cons_succ]
    clear q1
    refine wpAnyH_ready (rs := [1, 11]) (by kernel_rfl) (by simp) ?_
    refine AllReadyH.cons rfl (fun K hK => ?_) (AllReadyH.cons rfl (fun K hK => ?_) AllReadyH.nil)
    · rw [if_pos (by rfl)]
      go_simp
      refine (HN.out gB 1 id _ rfl (by decide) G1.out _ hb4).mono ?_
      rintro e v1 ⟨rfl, b1⟩
      have Z5 := Z4.next b1
      have hb5 := hb4.below b1
      have t5 := Ext.trans t4 b1
      skip
      refine hK.out _ _ ((b1.cell (p := ⟨gB, 13, none⟩) (block_lt_of_cell hS)).trans hS) (fun hS' => ?_)
      clear hK K hS Z4 hb4 t4 b1
      have hS := hS'
      have Z4 := Z5
      have hb4 := hb5
      have t4 := t5
      clear hS' Z5 hb5 t5
      try simp only [Act.put, List.getElem_toArray, List.getElem_cons_zero, List.getElem_cons_succ, List.setIfInBounds_toArray, List.set_cons_zero, List.set_cons_succ]
      refine wpAnyH_ready (rs := [3, 11]) (by kernel_rfl) (by simp) ?_
      refine AllReadyH.cons rfl (fun K hK => ?_) (AllReadyH.cons rfl (fun K hK => ?_) AllReadyH.nil)
      · rw [if_pos (by rfl)]
        go_simp
        refine (HN.out gB 5 age _ rfl (by decide) G2.out _ hb4).mono ?_
        rintro e v1 ⟨rfl, b1⟩
        have Z5 := Z4.next b1
        have hb5 := hb4.below b1
        have t5 := Ext.trans t4 b1
        skip
        refine hK.out _ _ ((b1.cell (p := ⟨gB, 13, none⟩) (block_lt_of_cell hS)).trans hS) (fun hS' => ?_)
        clear hK K hS Z4 hb4 t4 b1
        have hS := hS'
        have Z4 := Z5
        have hb4 := hb5
        have t4 := t5
        clear hS' Z5 hb5 t5
        try simp only [Act.put, List.getElem_toArray, List.getElem_cons_zero, List.getElem_cons_succ, List.setIfInBounds_toArray, List.set_cons_zero, List.set_cons_succ]
        refine wpAnyH_ready (rs := [5, 11]) (by kernel_rfl) (by simp) ?_
        refine AllReadyH.cons rfl (fun K hK => ?_) (AllReadyH.cons rfl (fun K hK => ?_) AllReadyH.nil)
        · rw [if_pos (by rfl)]
          go_simp
          refine (HN.out gB 9 sq _ rfl (by decide) G3.out _ hb4).mono ?_
          rintro e v1 ⟨rfl, b1⟩
          have Z5 := Z4.next b1
          have hb5 := hb4.below b1
          have t5 := Ext.trans t4 b1
          skip
          refine hK.out _ _ ((b1.cell (p := ⟨gB, 13, none⟩) (block_lt_of_cell hS)).trans hS) (fun hS' => ?_)
          clear hK K hS Z4 hb4 t4 b1
          have hS := hS'
          have Z4 := Z5
          have hb4 := hb5
          have t4 := t5
          clear hS' Z5 hb5 t5
          try simp only [Act.put, List.getElem_toArray, List.getElem_cons_zero, List.getElem_cons_succ, List.setIfInBounds_toArray, List.set_cons_zero, List.set_cons_succ]
          refine wpAnyH_take (i := 10) (oi := _) (v := ?_) rfl (by kernel_rfl) (by kernel_rfl) (by kernel_rfl) (fun _ _ _ h => h) (Or.inl ⟨by rfl, ?_⟩) hS ?_
          rotate_left
          · (intro w hSw; (try dsimp only at hSw); go_simp; (try with_reducible rfl))
          rotate_left
          simp only [Act.put, List.getElem_toArray, List.getElem_cons_zero, List.getElem_cons_succ, List.setIfInBounds_toArray, List.set_cons_zero, List.set_cons_succ]
          refine wpAnyH_ready (rs := [11]) (by kernel_rfl) (by simp) ?_
          refine AllReadyH.cons rfl (fun K hK => ?_) AllReadyH.nil
          rw [if_pos (by rfl)]
          go_simp
          obtain ⟨g5, hg5⟩ : ∃ z : Nat, z = v1.heap.size := ⟨_, rfl⟩
          have N4 := BoxOf.new' v1 g5 #[.int .u32 0, .int .u32 0, .int .u32 0, .int .i64 0, .slice none 0 0] 25 hg5
          have l5 : gB < g5 := by rw [hg5]; exact hb4.lt'
          have l6 : w.heap.size < g5 := by rw [hg5]; exact Z4.lt
          have b1 := Ext.alloc (Below.refl v1.heap.size v1) (.cells #[.int .u32 0, .int .u32 0, .int .u32 0, .int .i64 0, .slice none 0 0] 25)
          have Z5 := Z4.next b1
          have hb5 := hb4.below b1
          have t5 := Ext.trans t4 b1
          refine hK.out _ _ ((b1.cell (p := ⟨gB, 13, none⟩) (block_lt_of_cell hS)).trans hS) (fun hS' => ?_)
          rw [← hg5]
          clear hK K hS Z4 hb4 t4 b1 hg5
          have hS := hS'
          have Z4 := Z5
          have hb4 := hb5
          have t4 := t5
          clear hS' Z5 hb5 t5
          try simp only [Act.put, List.getElem_toArray, List.getElem_cons_zero, List.getElem_cons_succ, List.setIfInBounds_toArray, List.set_cons_zero, List.set_cons_succ]
          generalize v1.alloc (.cells #[.int .u32 0, .int .u32 0, .int .u32 0, .int .i64 0, .slice none 0 0] 25) = v1 at *
          refine wpAnyH_ready (rs := [12]) (by kernel_rfl) (by simp) ?_
          refine AllReadyH.cons rfl (fun K hK => ?_) AllReadyH.nil
          rw [if_pos (by rfl)]
          have fN := N4.free
          have yN := N4.cell
          go_simp
          clear fN yN
          have N5 : BoxOf _ g5 #[.int .u32 (id : Int), .int .u32 (age : Int), .int .u32 (sq : Int), .int .i64 (st : Int), .slice none 0 0] 25 := nbox5 N4 (.int .u32 (id : Int)) (.int .u32 (age : Int)) (.int .u32 (sq : Int)) (.int .i64 (st : Int)) (.slice none 0 0)
          have Z5 := nelse5 Z4 (show w.heap.size ≠ g5 by omega) (.int .u32 (id : Int)) (.int .u32 (age : Int)) (.int .u32 (sq : Int)) (.int .i64 (st : Int)) (.slice none 0 0)
          have hb5 := nbs5 hb4 (show gB ≠ g5 by omega) (.int .u32 (id : Int)) (.int .u32 (age : Int)) (.int .u32 (sq : Int)) (.int .i64 (st : Int)) (.slice none 0 0)
          have t5 := nbelow5 t4 (show w.heap.size ≤ g5 by omega) (.int .u32 (id : Int)) (.int .u32 (age : Int)) (.int .u32 (sq : Int)) (.int .i64 (st : Int)) (.slice none 0 0)
          refine hK.out _ _ (hb5.at 13 (by decide) st G4.out) (fun hS' => ?_)
          clear hK K hS hS' N4 Z4 hb4 t4
          try simp only [Act.put, List.getElem_toArray, List.getElem_cons_zero, List.getElem_cons_succ, List.setIfInBounds_toArray, List.set_cons_zero, List.set_cons_succ]
          refine wpAnyH_done (by kernel_rfl) ?_ _
          go_wp2_with fail
          go_meet
          exact ⟨g5, rfl, l5, l6, N5, Z5, hb5, t5⟩
        · rw [if_pos (by rfl)]
          go_simp
          obtain ⟨g5, hg5⟩ : ∃ z : Nat, z = v1.heap.size := ⟨_, rfl⟩
          have N4 := BoxOf.new' v1 g5 #[.int .u32 0, .int .u32 0, .int .u32 0, .int .i64 0, .slice none 0 0] 25 hg5
          have l5 : gB < g5 := by rw [hg5]; exact hb4.lt'
          have l6 : w.heap.size < g5 := by rw [hg5]; exact Z4.lt
          have b1 := Ext.alloc (Below.refl v1.heap.size v1) (.cells #[.int .u32 0, .int .u32 0, .int .u32 0, .int .i64 0, .slice none 0 0] 25)
          have Z5 := Z4.next b1
          have hb5 := hb4.below b1
          have t5 := Ext.trans t4 b1
          refine hK.out _ _ ((b1.cell (p := ⟨gB, 13, none⟩) (block_lt_of_cell hS)).trans hS) (fun hS' => ?_)
          rw [← hg5]
          clear hK K hS Z4 hb4 t4 b1 hg5
          have hS := hS'
          have Z4 := Z5
          have hb4 := hb5
          have t4 := t5
          clear hS' Z5 hb5 t5
          try simp only [Act.put, List.getElem_toArray, List.getElem_cons_zero, List.getElem_cons_succ, List.setIfInBounds_toArray, List.set_cons_zero, List.set_cons_succ]
          generalize v1.alloc (.cells #[.int .u32 0, .int .u32 0, .int .u32 0, .int .i64 0, .slice none 0 0] 25) = v1 at *
          refine wpAnyH_ready (rs := [5]) (by kernel_rfl) (by simp) ?_
          refine AllReadyH.cons rfl (fun K hK => ?_) AllReadyH.nil
          rw [if_pos (by rfl)]
          go_simp
          refine (HN.out gB 9 sq _ rfl (by decide) G3.out _ hb4).mono ?_
          rintro e v1 ⟨rfl, b1⟩
          have Z5 := Z4.next b1
          have hb5 := hb4.below b1
          have t5 := Ext.trans t4 b1
          have N4 := N4.next b1
          refine hK.out _ _ ((b1.cell (p := ⟨gB, 13, none⟩) (block_lt_of_cell hS)).trans hS) (fun hS' => ?_)
          clear hK K hS Z4 hb4 t4 b1
          have hS := hS'
          have Z4 := Z5
          have hb4 := hb5
          have t4 := t5
          clear hS' Z5 hb5 t5
          try simp only [Act.put, List.getElem_toArray, List.getElem_cons_zero, List.getElem_cons_succ, List.setIfInBounds_toArray, List.set_cons_zero, List.set_cons_succ]
          refine wpAnyH_take (i := 10) (oi := _) (v := ?_) rfl (by kernel_rfl) (by kernel_rfl) (by kernel_rfl) (fun _ _ _ h => h) (Or.inl ⟨by rfl, ?_⟩) hS ?_
          rotate_left
          · (intro w hSw; (try dsimp only at hSw); go_simp; (try with_reducible rfl))
          rotate_left
          simp only [Act.put, List.getElem_toArray, List.getElem_cons_zero, List.getElem_cons_succ, List.setIfInBounds_toArray, List.set_cons_zero, List.set_cons_succ]
          refine wpAnyH_ready (rs := [12]) (by kernel_rfl) (by simp) ?_
          refine AllReadyH.cons rfl (fun K hK => ?_) AllReadyH.nil
          rw [if_pos (by rfl)]
          have fN := N4.free
          have yN := N4.cell
          go_simp
          clear fN yN
          have N5 : BoxOf _ g5 #[.int .u32 (id : Int), .int .u32 (age : Int), .int .u32 (sq : Int), .int .i64 (st : Int), .slice none 0 0] 25 := nbox5 N4 (.int .u32 (id : Int)) (.int .u32 (age : Int)) (.int .u32 (sq : Int)) (.int .i64 (st : Int)) (.slice none 0 0)
          have Z5 := nelse5 Z4 (show w.heap.size ≠ g5 by omega) (.int .u32 (id : Int)) (.int .u32 (age : Int)) (.int .u32 (sq : Int)) (.int .i64 (st : Int)) (.slice none 0 0)
          have hb5 := nbs5 hb4 (show gB ≠ g5 by omega) (.int .u32 (id : Int)) (.int .u32 (age : Int)) (.int .u32 (sq : Int)) (.int .i64 (st : Int)) (.slice none 0 0)
          have t5 := nbelow5 t4 (show w.heap.size ≤ g5 by omega) (.int .u32 (id : Int)) (.int .u32 (age : Int)) (.int .u32 (sq : Int)) (.int .i64 (st : Int)) (.slice none 0 0)
          refine hK.out _ _ (hb5.at 13 (by decide) st G4.out) (fun hS' => ?_)
          clear hK K hS hS' N4 Z4 hb4 t4
          try simp only [Act.put, List.getElem_toArray, List.getElem_cons_zero, List.getElem_cons_succ, List.setIfInBounds_toArray, List.set_cons_zero, List.set_cons_succ]
          refine wpAnyH_done (by kernel_rfl) ?_ _
          go_wp2_with fail
          go_meet
          exact ⟨g5, rfl, l5, l6, N5, Z5, hb5, t5⟩
      · rw [if_pos (by rfl)]
        go_simp
        obtain ⟨g5, hg5⟩ : ∃ z : Nat, z = v1.heap.size := ⟨_, rfl⟩
        have N4 := BoxOf.new' v1 g5 #[.int .u32 0, .int .u32 0, .int .u32 0, .int .i64 0, .slice none 0 0] 25 hg5
        have l5 : gB < g5 := by rw [hg5]; exact hb4.lt'
        have l6 : w.heap.size < g5 := by rw [hg5]; exact Z4.lt
        have b1 := Ext.alloc (Below.refl v1.heap.size v1) (.cells #[.int .u32 0, .int .u32 0, .int .u32 0, .int .i64 0, .slice none 0 0] 25)
        have Z5 := Z4.next b1
        have hb5 := hb4.below b1
        have t5 := Ext.trans t4 b1
        refine hK.out _ _ ((b1.cell (p := ⟨gB, 13, none⟩) (block_lt_of_cell hS)).trans hS) (fun hS' => ?_)
        rw [← hg5]
        clear hK K hS Z4 hb4 t4 b1 hg5
        have hS := hS'
        have Z4 := Z5
        have hb4 := hb5
        have t4 := t5
        clear hS' Z5 hb5 t5
        try simp only [Act.put, List.getElem_toArray, List.getElem_cons_zero, List.getElem_cons_succ, List.setIfInBounds_toArray, List.set_cons_zero, List.set_cons_succ]
        generalize v1.alloc (.cells #[.int .u32 0, .int .u32 0, .int .u32 0, .int .i64 0, .slice none 0 0] 25) = v1 at *
        refine wpAnyH_ready (rs := [3]) (by kernel_rfl) (by simp) ?_
        refine AllReadyH.cons rfl (fun K hK => ?_) AllReadyH.nil
        rw [if_pos (by rfl)]
        go_simp
        refine (HN.out gB 5 age _ rfl (by decide) G2.out _ hb4).mono ?_
        rintro e v1 ⟨rfl, b1⟩
        have Z5 := Z4.next b1
        have hb5 := hb4.below b1
        have t5 := Ext.trans t4 b1
        have N4 := N4.next b1
        refine hK.out _ _ ((b1.cell (p := ⟨gB, 13, none⟩) (block_lt_of_cell hS)).trans hS) (fun hS' => ?_)
        clear hK K hS Z4 hb4 t4 b1
        have hS := hS'
        have Z4 := Z5
        have hb4 := hb5
        have t4 := t5
        clear hS' Z5 hb5 t5
        try simp only [Act.put, List.getElem_toArray, List.getElem_cons_zero, List.getElem_cons_succ, List.setIfInBounds_toArray, List.set_cons_zero, List.set_cons_succ]
        refine wpAnyH_ready (rs := [5]) (by kernel_rfl) (by simp) ?_
        refine AllReadyH.cons rfl (fun K hK => ?_) AllReadyH.nil
        rw [if_pos (by rfl)]
        go_simp
        refine (HN.out gB 9 sq _ rfl (by decide) G3.out _ hb4).mono ?_
        rintro e v1 ⟨rfl, b1⟩
        have Z5 := Z4.next b1
        have hb5 := hb4.below b1
        have t5 := Ext.trans t4 b1
        have N4 := N4.next b1
        refine hK.out _ _ ((b1.cell (p := ⟨gB, 13, none⟩) (block_lt_of_cell hS)).trans hS) (fun hS' => ?_)
        clear hK K hS Z4 hb4 t4 b1
        have hS := hS'
        have Z4 := Z5
        have hb4 := hb5
        have t4 := t5
        clear hS' Z5 hb5 t5
        try simp only [Act.put, List.getElem_toArray, List.getElem_cons_zero, List.getElem_cons_succ, List.setIfInBounds_toArray, List.set_cons_zero, List.set_cons_succ]
        refine wpAnyH_take (i := 10) (oi := _) (v := ?_) rfl (by kernel_rfl) (by kernel_rfl) (by kernel_rfl) (fun _ _ _ h => h) (Or.inl ⟨by rfl, ?_⟩) hS ?_
        rotate_left
        · (intro w hSw; (try dsimp only at hSw); go_simp; (try with_reducible rfl))
        rotate_left
        simp only [Act.put, List.getElem_toArray, List.getElem_cons_zero, List.getElem_cons_succ, List.setIfInBounds_toArray, List.set_cons_zero, List.set_cons_succ]
        refine wpAnyH_ready (rs := [12]) (by kernel_rfl) (by simp) ?_
        refine AllReadyH.cons rfl (fun K hK => ?_) AllReadyH.nil
        rw [if_pos (by rfl)]
        have fN := N4.free
        have yN := N4.cell
        go_simp
        clear fN yN
        have N5 : BoxOf _ g5 #[.int .u32 (id : Int), .int .u32 (age : Int), .int .u32 (sq : Int), .int .i64 (st : Int), .slice none 0 0] 25 := nbox5 N4 (.int .u32 (id : Int)) (.int .u32 (age : Int)) (.int .u32 (sq : Int)) (.int .i64 (st : Int)) (.slice none 0 0)
        have Z5 := nelse5 Z4 (show w.heap.size ≠ g5 by omega) (.int .u32 (id : Int)) (.int .u32 (age : Int)) (.int .u32 (sq : Int)) (.int .i64 (st : Int)) (.slice none 0 0)
        have hb5 := nbs5 hb4 (show gB ≠ g5 by omega) (.int .u32 (id : Int)) (.int .u32 (age : Int)) (.int .u32 (sq : Int)) (.int .i64 (st : Int)) (.slice none 0 0)
        have t5 := nbelow5 t4 (show w.heap.size ≤ g5 by omega) (.int .u32 (id : Int)) (.int .u32 (age : Int)) (.int .u32 (sq : Int)) (.int .i64 (st : Int)) (.slice none 0 0)
        refine hK.out _ _ (hb5.at 13 (by decide) st G4.out) (fun hS' => ?_)
        clear hK K hS hS' N4 Z4 hb4 t4
        try simp only [Act.put, List.getElem_toArray, List.getElem_cons_zero, List.getElem_cons_succ, List.setIfInBounds_toArray, List.set_cons_zero, List.set_cons_succ]
        refine wpAnyH_done (by kernel_rfl) ?_ _
        go_wp2_with fail
        go_meet
        exact ⟨g5, rfl, l5, l6, N5, Z5, hb5, t5⟩
    · rw [if_pos (by rfl)]
      go_simp
      obtain ⟨g5, hg5⟩ : ∃ z : Nat, z = v.heap.size := ⟨_, rfl⟩
      have N4 := BoxOf.new' v g5 #[.int .u32 0, .int .u32 0, .int .u32 0, .int .i64 0, .slice none 0 0] 25 hg5
      have l5 : gB < g5 := by rw [hg5]; exact hb4.lt'
      have l6 : w.heap.size < g5 := by rw [hg5]; exact Z4.lt
      have b1 := Ext.alloc (Below.refl v.heap.size v) (.cells #[.int .u32 0, .int .u32 0, .int .u32 0, .int .i64 0, .slice none 0 0] 25)
      have Z5 := Z4.next b1
      have hb5 := hb4.below b1
      have t5 := Ext.trans t4 b1
      refine hK.out _ _ ((b1.cell (p := ⟨gB, 13, none⟩) (block_lt_of_cell hS)).trans hS) (fun hS' => ?_)
      rw [← hg5]
      clear hK K hS Z4 hb4 t4 b1 hg5
      have hS := hS'
      have Z4 := Z5
      have hb4 := hb5
      have t4 := t5
      clear hS' Z5 hb5 t5
      try simp only [Act.put, List.getElem_toArray, List.getElem_cons_zero, List.getElem_cons_succ, List.setIfInBounds_toArray, List.set_cons_zero, List.set_cons_succ]
      generalize v.alloc (.cells #[.int .u32 0, .int .u32 0, .int .u32 0, .int .i64 0, .slice none 0 0] 25) = v at *
      refine wpAnyH_ready (rs := [1]) (by kernel_rfl) (by simp) ?_
      refine AllReadyH.cons rfl (fun K hK => ?_) AllReadyH.nil
      rw [if_pos (by rfl)]
      go_simp
      refine (HN.out gB 1 id _ rfl (by decide) G1.out _ hb4).mono ?_
      rintro e v1 ⟨rfl, b1⟩
      have Z5 := Z4.next b1
      have hb5 := hb4.below b1
      have t5 := Ext.trans t4 b1
      have N4 := N4.next b1
      refine hK.out _ _ ((b1.cell (p := ⟨gB, 13, none⟩) (block_lt_of_cell hS)).trans hS) (fun hS' => ?_)
      clear hK K hS Z4 hb4 t4 b1
      have hS := hS'
      have Z4 := Z5
      have hb4 := hb5
      have t4 := t5
      clear hS' Z5 hb5 t5
      try simp only [Act.put, List.getElem_toArray, List.getElem_cons_zero, List.getElem_cons_succ, List.setIfInBounds_toArray, List.set_cons_zero, List.set_cons_succ]
      refine wpAnyH_ready (rs := [3]) (by kernel_rfl) (by simp) ?_
      refine AllReadyH.cons rfl (fun K hK => ?_) AllReadyH.nil
      rw [if_pos (by rfl)]
      go_simp
      refine (HN.out gB 5 age _ rfl (by decide) G2.out _ hb4).mono ?_
      rintro e v1 ⟨rfl, b1⟩
      have Z5 := Z4.next b1
      have hb5 := hb4.below b1
      have t5 := Ext.trans t4 b1
      have N4 := N4.next b1
      refine hK.out _ _ ((b1.cell (p := ⟨gB, 13, none⟩) (block_lt_of_cell hS)).trans hS) (fun hS' => ?_)
      clear hK K hS Z4 hb4 t4 b1
      have hS := hS'
      have Z4 := Z5
      have hb4 := hb5
      have t4 := t5
      clear hS' Z5 hb5 t5
      try simp only [Act.put, List.getElem_toArray, List.getElem_cons_zero, List.getElem_cons_succ, List.setIfInBounds_toArray, List.set_cons_zero, List.set_cons_succ]
      refine wpAnyH_ready (rs := [5]) (by kernel_rfl) (by simp) ?_
      refine AllReadyH.cons rfl (fun K hK => ?_) AllReadyH.nil
      rw [if_pos (by rfl)]
      go_simp
      refine (HN.out gB 9 sq _ rfl (by decide) G3.out _ hb4).mono ?_
      rintro e v1 ⟨rfl, b1⟩
      have Z5 := Z4.next b1
      have hb5 := hb4.below b1
      have t5 := Ext.trans t4 b1
      have N4 := N4.next b1
      refine hK.out _ _ ((b1.cell (p := ⟨gB, 13, none⟩) (block_lt_of_cell hS)).trans hS) (fun hS' => ?_)
      clear hK K hS Z4 hb4 t4 b1
      have hS := hS'
      have Z4 := Z5
      have hb4 := hb5
      have t4 := t5
      clear hS' Z5 hb5 t5
      try simp only [Act.put, List.getElem_toArray, List.getElem_cons_zero, List.getElem_cons_succ, List.setIfInBounds_toArray, List.set_cons_zero, List.set_cons_succ]
      refine wpAnyH_take (i := 10) (oi := _) (v := ?_) rfl (by kernel_rfl) (by kernel_rfl) (by kernel_rfl) (fun _ _ _ h => h) (Or.inl ⟨by rfl, ?_⟩) hS ?_
      rotate_left
      · (intro w hSw; (try dsimp only at hSw); go_simp; (try with_reducible rfl))
      rotate_left
      simp only [Act.put, List.getElem_toArray, List.getElem_cons_zero, List.getElem_cons_succ, List.setIfInBounds_toArray, List.set_cons_zero, List.set_cons_succ]
      refine wpAnyH_ready (rs := [12]) (by kernel_rfl) (by simp) ?_
      refine AllReadyH.cons rfl (fun K hK => ?_) AllReadyH.nil
      rw [if_pos (by rfl)]
      have fN := N4.free
      have yN := N4.cell
      go_simp
      clear fN yN
      have N5 : BoxOf _ g5 #[.int .u32 (id : Int), .int .u32 (age : Int), .int .u32 (sq : Int), .int .i64 (st : Int), .slice none 0 0] 25 := nbox5 N4 (.int .u32 (id : Int)) (.int .u32 (age : Int)) (.int .u32 (sq : Int)) (.int .i64 (st : Int)) (.slice none 0 0)
      have Z5 := nelse5 Z4 (show w.heap.size ≠ g5 by omega) (.int .u32 (id : Int)) (.int .u32 (age : Int)) (.int .u32 (sq : Int)) (.int .i64 (st : Int)) (.slice none 0 0)
      have hb5 := nbs5 hb4 (show gB ≠ g5 by omega) (.int .u32 (id : Int)) (.int .u32 (age : Int)) (.int .u32 (sq : Int)) (.int .i64 (st : Int)) (.slice none 0 0)
      have t5 := nbelow5 t4 (show w.heap.size ≤ g5 by omega) (.int .u32 (id : Int)) (.int .u32 (age : Int)) (.int .u32 (sq : Int)) (.int .i64 (st : Int)) (.slice none 0 0)
      refine hK.out _ _ (hb5.at 13 (by decide) st G4.out) (fun hS' => ?_)
      clear hK K hS hS' N4 Z4 hb4 t4
      try simp only [Act.put, List.getElem_toArray, List.getElem_cons_zero, List.getElem_cons_succ, List.setIfInBounds_toArray, List.set_cons_zero, List.set_cons_succ]
      refine wpAnyH_done (by kernel_rfl) ?_ _
      go_wp2_with fail
      go_meet
      exact ⟨g5, rfl, l5, l6, N5, Z5, hb5, t5⟩
  case rest =>
    obtain ⟨g5, rfl, l6, l7, N5, Z5, hb5, t5⟩ := hcut
    clear Z2 hb2 t2 c13 q1
    go_wp2
    go_loopw [6] (fun i wr => ∃ (k : Nat) (u : Value), k ≤ m ∧ i = .int .i64 k ∧ BoxOf wr g5 #[.int .u32 (id : Int), .int .u32 (age : Int), .int .u32 (sq : Int), .int .i64 (st : Int), u] 25 ∧ BoxOf wr w.heap.size #[.int .u32 0, .int .u32 0, .int .u32 0, .int .i64 0, .slice none 0 0] 25 ∧ Bs wr (some ⟨gB, 0, none⟩) 128 B ∧ Below w.heap.size w wr ∧ OwnR wr (g5 + 1) u k (rdRs B k)) (fun i _ => m - (intOf i).toNat)
    case atStart => exact ⟨0, .slice none 0 0, by omega, rfl, N5, Z5, hb5, t5, OwnR.nil _ _⟩
    case round =>
      obtain ⟨k, u, hk, rfl, N6, Z6, hb6, t6, O6⟩ := hrel
      clear N5 Z5 hb5 t5
      have c14 := hb6.at 14 (by decide) mm G5.out
      have QM : Hid (wrap64 (mm : Int) = (mm : Int)) := Lib.hid (IntWalk.wrap64_in _ (by omega))
      by_cases hlt : k < m
      · have e1 : decide ((k : Int) < (mm : Int)) = true := decide_eq_true (by omega)
        have e2 : decide ((k : Int) < 16) = true := decide_eq_true (by omega)
        have e3 : decide (k < mm) = true := decide_eq_true (by omega)
        have e4 : decide (k < 16) = true := decide_eq_true (by omega)
        have qm := QM.out
        have LL := Lib.hid (And.intro l6 (And.intro l7 lB))
        have HM16 := Lib.hid hm16
        have HLT := Lib.hid hlt
        clear l1 l2 l3 l4 l5 l6 l7 lB hm16 hmm1 hBl hlt hk hlen
        go_upto_region 8 with fail
        clear qm e1 e2 e3 e4
        obtain ⟨l6, l7, lB⟩ := LL.out
        have hm16 := HM16.out
        have hlt := HLT.out
        have hk16 : k < 16 := Nat.lt_of_lt_of_le hlt hm16
        obtain ⟨sl, hsl⟩ : ∃ z, z = takeN B (15 + 6 * k) 1 := ⟨_, rfl⟩
        obtain ⟨bb, hbb⟩ : ∃ z, z = takeN B (16 + 6 * k) 1 := ⟨_, rfl⟩
        obtain ⟨su, hsu⟩ : ∃ z, z = takeN B (17 + 6 * k) 4 := ⟨_, rfl⟩
        obtain ⟨ba, hba⟩ : ∃ z, z = ((bb : Int) == 1) := ⟨_, rfl⟩
        have hrec : rdRec B k = ⟨sl, ba, su⟩ := by
          unfold rdRec
          rw [hba, hsl, hbb, hsu]
          congr 1
          rw [Bool.eq_iff_iff, beq_iff_eq, beq_iff_eq]
          omega
        have HRE := Lib.hid hrec
        have HSL := Lib.hid hsl
        have HBB := Lib.hid hbb
        have HSU := Lib.hid hsu
        have HBA := Lib.hid hba
        clear hrec hsl hbb hsu hba
        have c15 := hb6.at (15 + 6 * k) (by omega) sl HSL.out
        have c16 := hb6.at (16 + 6 * k) (by omega) bb HBB.out
        have q6 : IntKind.i64.wrap (6 * (k : Int)) = 6 * (k : Int) := i64_fit (by omega)
        have q15 : IntKind.i64.wrap (15 + 6 * (k : Int)) = 15 + 6 * (k : Int) := i64_fit (by omega)
        have q16 : IntKind.i64.wrap (16 + 6 * (k : Int)) = 16 + 6 * (k : Int) := i64_fit (by omega)
        have q17 : IntKind.i64.wrap (17 + 6 * (k : Int)) = 17 + 6 * (k : Int) := i64_fit (by omega)
        have i1 : (0 : Int) ≤ 15 + 6 * (k : Int) := by omega
        have i2 : 15 + 6 * (k : Int) < 128 := by omega
        have i3 : (15 + 6 * (k : Int)).toNat = 15 + 6 * k := by omega
        have i4 : (0 : Int) ≤ 16 + 6 * (k : Int) := by omega
        have i5 : 16 + 6 * (k : Int) < 128 := by omega
        have i6 : (16 + 6 * (k : Int)).toNat = 16 + 6 * k := by omega
        refine wp_region_held_drew (S := fun w' => w'.cell? ⟨gB, 15 + 6 * k, none⟩ = some (.int .u8 (sl : Int)) ∧ w'.cell? ⟨gB, 16 + 6 * k, none⟩ = some (.int .u8 (bb : Int))) (by kernel_rfl) ⟨c15, c16⟩ (fun hS => ?_)
        have N8 := N6.drew
        have Z8 := Z6.drew
        have hb8 : Bs wr.drew (some ⟨gB, 0, none⟩) 128 B := hb6
        have t8 := Ext.drew t6
        have O8 : OwnR wr.drew (g5 + 1) u k (rdRs B k) := O6
        clear N6 Z6 hb6 t6 O6 c14 c15 c16
        generalize wr.drew = v at *
        refine wpAnyH_take (i := 0) (oi := _) (v := ?_) rfl (by kernel_rfl) (by kernel_rfl) (by kernel_rfl) (fun _ _ _ h => h) (Or.inl ⟨by rfl, ?_⟩) hS ?_
        rotate_left
        · (intro w hSw; (try dsimp only at hSw); go_simp; (try with_reducible rfl))
        rotate_left
        simp only [Act.put, List.getElem_toArray, List.getElem_cons_zero, List.getElem_cons_succ, List.setIfInBounds_toArray, List.set_cons_zero, List.set_cons_succ]
        refine wpAnyH_take (i := 2) (oi := _) (v := ?_) rfl (by kernel_rfl) (by kernel_rfl) (by kernel_rfl) (fun _ _ _ h => h) (Or.inl ⟨by rfl, ?_⟩) hS ?_
        rotate_left
        · (intro w hSw; (try dsimp only at hSw); go_simp; (try with_reducible rfl))
        rotate_left
        simp only [Act.put, List.getElem_toArray, List.getElem_cons_zero, List.getElem_cons_succ, List.setIfInBounds_toArray, List.set_cons_zero, List.set_cons_succ]
        refine wpAnyH_take (i := 3) (oi := _) (v := ?_) rfl (by kernel_rfl) (by kernel_rfl) (by kernel_rfl) (fun _ _ _ h => h) (Or.inl ⟨by rfl, ?_⟩) hS ?_
        rotate_left
        · (intro w hSw; (try dsimp only at hSw); go_simp; (try with_reducible rfl))
        rotate_left
        simp only [Act.put, List.getElem_toArray, List.getElem_cons_zero, List.getElem_cons_succ, List.setIfInBounds_toArray, List.set_cons_zero, List.set_cons_succ]
        refine wpAnyH_take (i := 4) (oi := _) (v := ?_) rfl (by kernel_rfl) (by kernel_rfl) (by kernel_rfl) (fun _ _ _ h => h) (Or.inl ⟨by rfl, ?_⟩) hS ?_
        rotate_left
        · (intro w hSw; (try dsimp only at hSw); go_simp; (try with_reducible rfl))
        rotate_left
        simp only [Act.put, List.getElem_toArray, List.getElem_cons_zero, List.getElem_cons_succ, List.setIfInBounds_toArray, List.set_cons_zero, List.set_cons_succ]
        refine wpAnyH_take (i := 5) (oi := _) (v := ?_) rfl (by kernel_rfl) (by kernel_rfl) (by kernel_rfl) (fun _ _ _ h => h) (Or.inl ⟨by rfl, ?_⟩) hS ?_
        rotate_left
        · (intro w hSw; (try dsimp only at hSw); go_simp; (try with_reducible rfl))
        rotate_left
        simp only [Act.put, List.getElem_toArray, List.getElem_cons_zero, List.getElem_cons_succ, List.setIfInBounds_toArray, List.set_cons_zero, List.set_cons_succ]
        refine wpAnyH_take (i := 6) (oi := _) (v := ?_) rfl (by kernel_rfl) (by kernel_rfl) (by kernel_rfl) (fun _ _ _ h => h) (Or.inl ⟨by rfl, ?_⟩) hS ?_
        rotate_left
        · (intro w hSw; (try dsimp only at hSw); go_simp; (try with_reducible rfl))
        rotate_left
        simp only [Act.put, List.getElem_toArray, List.getElem_cons_zero, List.getElem_cons_succ, List.setIfInBounds_toArray, List.set_cons_zero, List.set_cons_succ]
        refine wpAnyH_take (i := 7) (oi := _) (v := ?_) rfl (by kernel_rfl) (by kernel_rfl) (by kernel_rfl) (fun _ _ _ h => h) (Or.inl ⟨by rfl, ?_⟩) hS ?_
        rotate_left
        · (intro w hSw; (try dsimp only at hSw); go_simp; (try with_reducible rfl))
        rotate_left
        simp only [Act.put, List.getElem_toArray, List.getElem_cons_zero, List.getElem_cons_succ, List.setIfInBounds_toArray, List.set_cons_zero, List.set_cons_succ]
        refine wpAnyH_take (i := 8) (oi := _) (v := ?_) rfl (by kernel_rfl) (by kernel_rfl) (by kernel_rfl) (fun _ _ _ h => h) (Or.inl ⟨by rfl, ?_⟩) hS ?_
        rotate_left
        · (intro w hSw; (try dsimp only at hSw); go_simp; (try with_reducible rfl))
        rotate_left
        simp only [Act.put, List.getElem_toArray, List.getElem_cons_zero, List.getElem_cons_succ, List.setIfInBounds_toArray, List.set_cons_zero, List.set_cons_succ]
        refine wpAnyH_take (i := 9) (oi := _) (v := ?_) rfl (by kernel_rfl) (by kernel_rfl) (by kernel_rfl) (fun _ _ _ h => h) (Or.inl ⟨by rfl, ?_⟩) hS ?_
        rotate_left
        · (intro w hSw; (try dsimp only at hSw); go_simp; (try with_reducible rfl))
        rotate_left
        simp only [Act.put, List.getElem_toArray, List.getElem_cons_zero, List.getElem_cons_succ, List.setIfInBounds_toArray, List.set_cons_zero, List.set_cons_succ]
        refine wpAnyH_take (i := 10) (oi := _) (v := ?_) rfl (by kernel_rfl) (by kernel_rfl) (by kernel_rfl) (fun _ _ _ h => h) (Or.inl ⟨by rfl, ?_⟩) hS ?_
        rotate_left
        · (intro w hSw; (try dsimp only at hSw); go_simp; (try with_reducible rfl))
        rotate_left
        simp only [Act.put, List.getElem_toArray, List.getElem_cons_zero, List.getElem_cons_succ, List.setIfInBounds_toArray, List.set_cons_zero, List.set_cons_succ]
        refine wpAnyH_take (i := 11) (oi := _) (v := ?_) rfl (by kernel_rfl) (by kernel_rfl) (by kernel_rfl) (fun _ _ _ h => h) (Or.inl ⟨by rfl, ?_⟩) hS ?_
        rotate_left
        · (intro w hSw; (try dsimp only at hSw); go_simp; (try with_reducible rfl))
        rotate_left
        simp only [Act.put, List.getElem_toArray, List.getElem_cons_zero, List.getElem_cons_succ, List.setIfInBounds_toArray, List.set_cons_zero, List.set_cons_succ]
        refine wpAnyH_take (i := 12) (oi := _) (v := ?_) rfl (by kernel_rfl) (by kernel_rfl) (by kernel_rfl) (fun _ _ _ h => h) (Or.inl ⟨by rfl, ?_⟩) hS ?_
        rotate_left
        · (intro w hSw; (try dsimp only at hSw); go_simp; (try with_reducible rfl))
        rotate_left
        simp only [Act.put, List.getElem_toArray, List.getElem_cons_zero, List.getElem_cons_succ, List.setIfInBounds_toArray, List.set_cons_zero, List.set_cons_succ]
        refine wpAnyH_take (i := 13) (oi := _) (v := ?_) rfl (by kernel_rfl) (by kernel_rfl) (by kernel_rfl) (fun _ _ _ h => h) (Or.inl ⟨by rfl, ?_⟩) hS ?_
        rotate_left
        · (intro w hSw; (try dsimp only at hSw); go_simp; (try with_reducible rfl))
        rotate_left
        simp only [Act.put, List.getElem_toArray, List.getElem_cons_zero, List.getElem_cons_succ, List.setIfInBounds_toArray, List.set_cons_zero, List.set_cons_succ]
        refine wpAnyH_take (i := 14) (oi := _) (v := ?_) rfl (by kernel_rfl) (by kernel_rfl) (by kernel_rfl) (fun _ _ _ h => h) (Or.inl ⟨by rfl, ?_⟩) hS ?_
        rotate_left
        · (intro w hSw; (try dsimp only at hSw); go_simp; (try with_reducible rfl))
        rotate_left
        simp only [Act.put, List.getElem_toArray, List.getElem_cons_zero, List.getElem_cons_succ, List.setIfInBounds_toArray, List.set_cons_zero, List.set_cons_succ]
        refine wpAnyH_take (i := 15) (oi := _) (v := ?_) rfl (by kernel_rfl) (by kernel_rfl) (by kernel_rfl) (fun _ _ _ h => h) (Or.inl ⟨by rfl, ?_⟩) hS ?_
        rotate_left
        · (intro w hSw; (try dsimp only at hSw); go_simp; (try with_reducible rfl))
        rotate_left
        simp only [Act.put, List.getElem_toArray, List.getElem_cons_zero, List.getElem_cons_succ, List.setIfInBounds_toArray, List.set_cons_zero, List.set_cons_succ]
        refine wpAnyH_take (i := 16) (oi := _) (v := ?_) rfl (by kernel_rfl) (by kernel_rfl) (by kernel_rfl) (fun _ _ _ h => h) (Or.inl ⟨by rfl, ?_⟩) hS ?_
        rotate_left
        · (intro w hSw; (try dsimp only at hSw); go_simp; (try with_reducible rfl))
        rotate_left
        simp only [Act.put, List.getElem_toArray, List.getElem_cons_zero, List.getElem_cons_succ, List.setIfInBounds_toArray, List.set_cons_zero, List.set_cons_succ]
        refine wpAnyH_take (i := 17) (oi := _) (v := ?_) rfl (by kernel_rfl) (by kernel_rfl) (by kernel_rfl) (fun _ _ _ h => h) (Or.inl ⟨by rfl, ?_⟩) hS ?_
        rotate_left
        · (intro w hSw; (try dsimp only at hSw); go_simp; (try with_reducible rfl))
        rotate_left
        simp only [Act.put, List.getElem_toArray, List.getElem_cons_zero, List.getElem_cons_succ, List.setIfInBounds_toArray, List.set_cons_zero, List.set_cons_succ]
        refine wpAnyH_take (i := 18) (oi := _) (v := ?_) rfl (by kernel_rfl) (by kernel_rfl) (by kernel_rfl) (fun _ _ _ h => h) (Or.inl ⟨by rfl, ?_⟩) hS ?_
        rotate_left
        · (intro w hSw; (try dsimp only at hSw); go_simp; (try with_reducible rfl))
        rotate_left
        simp only [Act.put, List.getElem_toArray, List.getElem_cons_zero, List.getElem_cons_succ, List.setIfInBounds_toArray, List.set_cons_zero, List.set_cons_succ]
        clear i1 i2 i3 i4 i5 i6 q6 q15 q16 q17
        refine wpAnyH_ready (rs := [1, 19]) (by kernel_rfl) (by simp) ?_
        refine AllReadyH.cons rfl (fun K hK => ?_) (AllReadyH.cons rfl (fun K hK => ?_) AllReadyH.nil)
        · rw [if_pos (by rfl)]
          have yN := N8.cell
          go_simp
          refine hK.out _ _ hS (fun hS' => ?_)
          clear yN
          clear hK K hS
          have hS := hS'
          clear hS'
          try simp only [Act.put, List.getElem_toArray, List.getElem_cons_zero, List.getElem_cons_succ, List.setIfInBounds_toArray, List.set_cons_zero, List.set_cons_succ]
          refine wpAnyH_ready (rs := [19]) (by kernel_rfl) (by simp) ?_
          refine AllReadyH.cons rfl (fun K hK => ?_) AllReadyH.nil
          rw [if_pos (by rfl)]
          go_simp
          refine (HN.out gB (17 + 6 * k) su _ (by omega) (by omega) HSU.out _ hb8).mono ?_
          rintro e v1 ⟨rfl, b1⟩
          have N9 := N8.next b1
          have Z9 := Z8.next b1
          have hb9 := hb8.below b1
          have t9 := Ext.trans t8 b1
          have O9 := O8.next b1
          refine hK.out _ _ ⟨(b1.cell (p := ⟨gB, 15 + 6 * k, none⟩) (block_lt_of_cell hS.1)).trans hS.1, (b1.cell (p := ⟨gB, 16 + 6 * k, none⟩) (block_lt_of_cell hS.2)).trans hS.2⟩ (fun hS' => ?_)
          clear hK K hS N8 Z8 hb8 t8 O8 b1
          have hS := hS'
          have N8 := N9
          have Z8 := Z9
          have hb8 := hb9
          have t8 := t9
          have O8 := O9
          clear hS' N9 Z9 hb9 t9 O9
          try simp only [Act.put, List.getElem_toArray, List.getElem_cons_zero, List.getElem_cons_succ, List.setIfInBounds_toArray, List.set_cons_zero, List.set_cons_succ]
          refine wpAnyH_take (i := 20) (oi := _) (v := ?_) rfl (by kernel_rfl) (by kernel_rfl) (by kernel_rfl) (fun _ _ _ h => h) (Or.inl ⟨by rfl, ?_⟩) hS ?_
          rotate_left
          · (intro w hSw; (try dsimp only at hSw); go_simp; (try with_reducible rfl))
          rotate_left
          simp only [Act.put, List.getElem_toArray, List.getElem_cons_zero, List.getElem_cons_succ, List.setIfInBounds_toArray, List.set_cons_zero, List.set_cons_succ]
          rw [← HBA.out]
          refine wpAnyH_ready (rs := [21]) (by kernel_rfl) (by simp) ?_
          refine AllReadyH.cons rfl (fun K hK => ?_) AllReadyH.nil
          rw [if_pos (by rfl)]
          go_simp
          obtain ⟨a10, ha10⟩ : ∃ z : Nat, z = v1.heap.size := ⟨_, rfl⟩
          have N10 := Rs.new (w := v1) a10 ha10 #[.int .u8 (sl : Int), .bool ba, .int .u32 (su : Int)] 27 1 [⟨sl, ba, su⟩] rfl rfl
          have b1 := Ext.alloc (Below.refl v1.heap.size v1) (.cells #[.int .u8 (sl : Int), .bool ba, .int .u32 (su : Int)] 27)
          have N9 := N8.next b1
          have Z9 := Z8.next b1
          have hb9 := hb8.below b1
          have t9 := Ext.trans t8 b1
          have O9 := O8.next b1
          refine hK.out _ _ ⟨(b1.cell (p := ⟨gB, 15 + 6 * k, none⟩) (block_lt_of_cell hS.1)).trans hS.1, (b1.cell (p := ⟨gB, 16 + 6 * k, none⟩) (block_lt_of_cell hS.2)).trans hS.2⟩ (fun hS' => ?_)
          rw [← ha10]
          clear hK K hS N8 Z8 hb8 t8 O8 b1 ha10
          have hS := hS'
          have N8 := N9
          have Z8 := Z9
          have hb8 := hb9
          have t8 := t9
          have O8 := O9
          clear hS' N9 Z9 hb9 t9 O9
          try simp only [Act.put, List.getElem_toArray, List.getElem_cons_zero, List.getElem_cons_succ, List.setIfInBounds_toArray, List.set_cons_zero, List.set_cons_succ]
          generalize v1.alloc (.cells #[.int .u8 (sl : Int), .bool ba, .int .u32 (su : Int)] 27) = v5 at *
          refine wpAnyH_ready (rs := [22]) (by kernel_rfl) (by simp) ?_
          refine AllReadyH.cons rfl (fun K hK => ?_) AllReadyH.nil
          rw [if_pos (by rfl)]
          refine wp_append_recs (.tmp 37) (.tmp 57) rfl (g5 + 1) u k _ rfl O8 (some ⟨a10, 0, none⟩) 1 1 [⟨sl, ba, su⟩] rfl N10 (by omega) (show g5 + 1 ≤ v5.heap.size from N8.lt) ?_
          intro u8 v8 O9 b8
          have N9 := N8.below b8 (by omega)
          have Z9 := Z8.below b8 (by omega)
          have hb9 : Bs v8 (some ⟨gB, 0, none⟩) 128 B := ⟨hb8.1, hb8.2.keep0 (fun o => b8.cell (p := ⟨gB, o, none⟩) (by show gB < g5 + 1; omega))⟩
          have t9 := t8.trans (b8.mono (show w.heap.size ≤ g5 + 1 by omega))
          refine hK.out _ _ ⟨hb9.at (15 + 6 * k) (by omega) sl HSL.out, hb9.at (16 + 6 * k) (by omega) bb HBB.out⟩ (fun hS' => ?_)
          clear hK K hS N8 Z8 hb8 t8 O8 b8 N10
          have hS := hS'
          clear hS'
          rw [← HRE.out, ← rdRs_succ] at O9
          obtain ⟨A8, c8, rfl, _⟩ := O9.rs (rdRs_len _ _)
          try simp only [Act.put, List.getElem_toArray, List.getElem_cons_zero, List.getElem_cons_succ, List.setIfInBounds_toArray, List.set_cons_zero, List.set_cons_succ]
          refine wpAnyH_take (i := 23) (oi := _) (v := ?_) rfl (by kernel_rfl) (by kernel_rfl) (by kernel_rfl) (fun _ _ _ h => h) (Or.inl ⟨by rfl, ?_⟩) hS ?_
          rotate_left
          · (intro w hSw; (try dsimp only at hSw); go_simp; (try with_reducible rfl))
          rotate_left
          simp only [Act.put, List.getElem_toArray, List.getElem_cons_zero, List.getElem_cons_succ, List.setIfInBounds_toArray, List.set_cons_zero, List.set_cons_succ]
          refine wpAnyH_ready (rs := [24]) (by kernel_rfl) (by simp) ?_
          refine AllReadyH.cons rfl (fun K hK => ?_) AllReadyH.nil
          rw [if_pos (by rfl)]
          have fN := N9.free
          have yN := N9.cell
          go_simp
          clear fN yN
          have t10 := Below.setCell (p := ⟨g5, 4, none⟩) t9 (show w.heap.size ≤ g5 by omega) (.slice A8 (k + 1) c8)
          have N10 : BoxOf _ g5 #[.int .u32 (id : Int), .int .u32 (age : Int), .int .u32 (sq : Int), .int .i64 (st : Int), .slice A8 (k + 1) c8] 25 := nbox_field N9 4 (.slice A8 (k + 1) c8)
          have Z10 := nbox_else Z9 (show w.heap.size ≠ g5 by omega) 4 (.slice A8 (k + 1) c8)
          have O10 := OwnR.set O9 (show g5 < g5 + 1 by omega) 4 (.slice A8 (k + 1) c8)
          have hb10 := hb9.setOther (show gB ≠ g5 by omega) 4 (.slice A8 (k + 1) c8)
          refine hK.out _ _ ⟨hb10.at (15 + 6 * k) (by omega) sl HSL.out, hb10.at (16 + 6 * k) (by omega) bb HBB.out⟩ (fun hS' => ?_)
          clear hK K hS hS' N9 Z9 hb9 t9 O9
          try simp only [Act.put, List.getElem_toArray, List.getElem_cons_zero, List.getElem_cons_succ, List.setIfInBounds_toArray, List.set_cons_zero, List.set_cons_succ]
          refine wpAnyH_done (by kernel_rfl) ?_ _
          go_wp2
          go_roundw
          case rel => exact ⟨k + 1, .slice A8 (k + 1) c8, by omega, by go_num, N10, Z10, hb10, t10, O10⟩
          case measure => simp [intOf]; omega
        · rw [if_pos (by rfl)]
          go_simp
          refine (HN.out gB (17 + 6 * k) su _ (by omega) (by omega) HSU.out _ hb8).mono ?_
          rintro e v1 ⟨rfl, b1⟩
          have N9 := N8.next b1
          have Z9 := Z8.next b1
          have hb9 := hb8.below b1
          have t9 := Ext.trans t8 b1
          have O9 := O8.next b1
          refine hK.out _ _ ⟨(b1.cell (p := ⟨gB, 15 + 6 * k, none⟩) (block_lt_of_cell hS.1)).trans hS.1, (b1.cell (p := ⟨gB, 16 + 6 * k, none⟩) (block_lt_of_cell hS.2)).trans hS.2⟩ (fun hS' => ?_)
          clear hK K hS N8 Z8 hb8 t8 O8 b1
          have hS := hS'
          have N8 := N9
          have Z8 := Z9
          have hb8 := hb9
          have t8 := t9
          have O8 := O9
          clear hS' N9 Z9 hb9 t9 O9
          try simp only [Act.put, List.getElem_toArray, List.getElem_cons_zero, List.getElem_cons_succ, List.setIfInBounds_toArray, List.set_cons_zero, List.set_cons_succ]
          refine wpAnyH_take (i := 20) (oi := _) (v := ?_) rfl (by kernel_rfl) (by kernel_rfl) (by kernel_rfl) (fun _ _ _ h => h) (Or.inl ⟨by rfl, ?_⟩) hS ?_
          rotate_left
          · (intro w hSw; (try dsimp only at hSw); go_simp; (try with_reducible rfl))
          rotate_left
          simp only [Act.put, List.getElem_toArray, List.getElem_cons_zero, List.getElem_cons_succ, List.setIfInBounds_toArray, List.set_cons_zero, List.set_cons_succ]
          rw [← HBA.out]
          refine wpAnyH_ready (rs := [1, 21]) (by kernel_rfl) (by simp) ?_
          refine AllReadyH.cons rfl (fun K hK => ?_) (AllReadyH.cons rfl (fun K hK => ?_) AllReadyH.nil)
          · rw [if_pos (by rfl)]
            have yN := N8.cell
            go_simp
            refine hK.out _ _ hS (fun hS' => ?_)
            clear yN
            clear hK K hS
            have hS := hS'
            clear hS'
            try simp only [Act.put, List.getElem_toArray, List.getElem_cons_zero, List.getElem_cons_succ, List.setIfInBounds_toArray, List.set_cons_zero, List.set_cons_succ]
            refine wpAnyH_ready (rs := [21]) (by kernel_rfl) (by simp) ?_
            refine AllReadyH.cons rfl (fun K hK => ?_) AllReadyH.nil
            rw [if_pos (by rfl)]
            go_simp
            obtain ⟨a10, ha10⟩ : ∃ z : Nat, z = v1.heap.size := ⟨_, rfl⟩
            have N10 := Rs.new (w := v1) a10 ha10 #[.int .u8 (sl : Int), .bool ba, .int .u32 (su : Int)] 27 1 [⟨sl, ba, su⟩] rfl rfl
            have b1 := Ext.alloc (Below.refl v1.heap.size v1) (.cells #[.int .u8 (sl : Int), .bool ba, .int .u32 (su : Int)] 27)
            have N9 := N8.next b1
            have Z9 := Z8.next b1
            have hb9 := hb8.below b1
            have t9 := Ext.trans t8 b1
            have O9 := O8.next b1
            refine hK.out _ _ ⟨(b1.cell (p := ⟨gB, 15 + 6 * k, none⟩) (block_lt_of_cell hS.1)).trans hS.1, (b1.cell (p := ⟨gB, 16 + 6 * k, none⟩) (block_lt_of_cell hS.2)).trans hS.2⟩ (fun hS' => ?_)
            rw [← ha10]
            clear hK K hS N8 Z8 hb8 t8 O8 b1 ha10
            have hS := hS'
            have N8 := N9
            have Z8 := Z9
            have hb8 := hb9
            have t8 := t9
            have O8 := O9
            clear hS' N9 Z9 hb9 t9 O9
            try simp only [Act.put, List.getElem_toArray, List.getElem_cons_zero, List.getElem_cons_succ, List.setIfInBounds_toArray, List.set_cons_zero, List.set_cons_succ]
            generalize v1.alloc (.cells #[.int .u8 (sl : Int), .bool ba, .int .u32 (su : Int)] 27) = v5 at *
            refine wpAnyH_ready (rs := [22]) (by kernel_rfl) (by simp) ?_
            refine AllReadyH.cons rfl (fun K hK => ?_) AllReadyH.nil
            rw [if_pos (by rfl)]
            refine wp_append_recs (.tmp 37) (.tmp 57) rfl (g5 + 1) u k _ rfl O8 (some ⟨a10, 0, none⟩) 1 1 [⟨sl, ba, su⟩] rfl N10 (by omega) (show g5 + 1 ≤ v5.heap.size from N8.lt) ?_
            intro u8 v8 O9 b8
            have N9 := N8.below b8 (by omega)
            have Z9 := Z8.below b8 (by omega)
            have hb9 : Bs v8 (some ⟨gB, 0, none⟩) 128 B := ⟨hb8.1, hb8.2.keep0 (fun o => b8.cell (p := ⟨gB, o, none⟩) (by show gB < g5 + 1; omega))⟩
            have t9 := t8.trans (b8.mono (show w.heap.size ≤ g5 + 1 by omega))
            refine hK.out _ _ ⟨hb9.at (15 + 6 * k) (by omega) sl HSL.out, hb9.at (16 + 6 * k) (by omega) bb HBB.out⟩ (fun hS' => ?_)
            clear hK K hS N8 Z8 hb8 t8 O8 b8 N10
            have hS := hS'
            clear hS'
            rw [← HRE.out, ← rdRs_succ] at O9
            obtain ⟨A8, c8, rfl, _⟩ := O9.rs (rdRs_len _ _)
            try simp only [Act.put, List.getElem_toArray, List.getElem_cons_zero, List.getElem_cons_succ, List.setIfInBounds_toArray, List.set_cons_zero, List.set_cons_succ]
            refine wpAnyH_take (i := 23) (oi := _) (v := ?_) rfl (by kernel_rfl) (by kernel_rfl) (by kernel_rfl) (fun _ _ _ h => h) (Or.inl ⟨by rfl, ?_⟩) hS ?_
            rotate_left
            · (intro w hSw; (try dsimp only at hSw); go_simp; (try with_reducible rfl))
            rotate_left
            simp only [Act.put, List.getElem_toArray, List.getElem_cons_zero, List.getElem_cons_succ, List.setIfInBounds_toArray, List.set_cons_zero, List.set_cons_succ]
            refine wpAnyH_ready (rs := [24]) (by kernel_rfl) (by simp) ?_
            refine AllReadyH.cons rfl (fun K hK => ?_) AllReadyH.nil
            rw [if_pos (by rfl)]
            have fN := N9.free
            have yN := N9.cell
            go_simp
            clear fN yN
            have t10 := Below.setCell (p := ⟨g5, 4, none⟩) t9 (show w.heap.size ≤ g5 by omega) (.slice A8 (k + 1) c8)
            have N10 : BoxOf _ g5 #[.int .u32 (id : Int), .int .u32 (age : Int), .int .u32 (sq : Int), .int .i64 (st : Int), .slice A8 (k + 1) c8] 25 := nbox_field N9 4 (.slice A8 (k + 1) c8)
            have Z10 := nbox_else Z9 (show w.heap.size ≠ g5 by omega) 4 (.slice A8 (k + 1) c8)
            have O10 := OwnR.set O9 (show g5 < g5 + 1 by omega) 4 (.slice A8 (k + 1) c8)
            have hb10 := hb9.setOther (show gB ≠ g5 by omega) 4 (.slice A8 (k + 1) c8)
            refine hK.out _ _ ⟨hb10.at (15 + 6 * k) (by omega) sl HSL.out, hb10.at (16 + 6 * k) (by omega) bb HBB.out⟩ (fun hS' => ?_)
            clear hK K hS hS' N9 Z9 hb9 t9 O9
            try simp only [Act.put, List.getElem_toArray, List.getElem_cons_zero, List.getElem_cons_succ, List.setIfInBounds_toArray, List.set_cons_zero, List.set_cons_succ]
            refine wpAnyH_done (by kernel_rfl) ?_ _
            go_wp2
            go_roundw
            case rel => exact ⟨k + 1, .slice A8 (k + 1) c8, by omega, by go_num, N10, Z10, hb10, t10, O10⟩
            case measure => simp [intOf]; omega
          · rw [if_pos (by rfl)]
            go_simp
            obtain ⟨a10, ha10⟩ : ∃ z : Nat, z = v1.heap.size := ⟨_, rfl⟩
            have N10 := Rs.new (w := v1) a10 ha10 #[.int .u8 (sl : Int), .bool ba, .int .u32 (su : Int)] 27 1 [⟨sl, ba, su⟩] rfl rfl
            have b1 := Ext.alloc (Below.refl v1.heap.size v1) (.cells #[.int .u8 (sl : Int), .bool ba, .int .u32 (su : Int)] 27)
            have N9 := N8.next b1
            have Z9 := Z8.next b1
            have hb9 := hb8.below b1
            have t9 := Ext.trans t8 b1
            have O9 := O8.next b1
            refine hK.out _ _ ⟨(b1.cell (p := ⟨gB, 15 + 6 * k, none⟩) (block_lt_of_cell hS.1)).trans hS.1, (b1.cell (p := ⟨gB, 16 + 6 * k, none⟩) (block_lt_of_cell hS.2)).trans hS.2⟩ (fun hS' => ?_)
            rw [← ha10]
            clear hK K hS N8 Z8 hb8 t8 O8 b1 ha10
            have hS := hS'
            have N8 := N9
            have Z8 := Z9
            have hb8 := hb9
            have t8 := t9
            have O8 := O9
            clear hS' N9 Z9 hb9 t9 O9
            try simp only [Act.put, List.getElem_toArray, List.getElem_cons_zero, List.getElem_cons_succ, List.setIfInBounds_toArray, List.set_cons_zero, List.set_cons_succ]
            generalize v1.alloc (.cells #[.int .u8 (sl : Int), .bool ba, .int .u32 (su : Int)] 27) = v5 at *
            refine wpAnyH_ready (rs := [1]) (by kernel_rfl) (by simp) ?_
            refine AllReadyH.cons rfl (fun K hK => ?_) AllReadyH.nil
            rw [if_pos (by rfl)]
            have yN := N8.cell
            go_simp
            refine hK.out _ _ hS (fun hS' => ?_)
            clear yN
            clear hK K hS
            have hS := hS'
            clear hS'
            try simp only [Act.put, List.getElem_toArray, List.getElem_cons_zero, List.getElem_cons_succ, List.setIfInBounds_toArray, List.set_cons_zero, List.set_cons_succ]
            refine wpAnyH_ready (rs := [22]) (by kernel_rfl) (by simp) ?_
            refine AllReadyH.cons rfl (fun K hK => ?_) AllReadyH.nil
            rw [if_pos (by rfl)]
            refine wp_append_recs (.tmp 37) (.tmp 57) rfl (g5 + 1) u k _ rfl O8 (some ⟨a10, 0, none⟩) 1 1 [⟨sl, ba, su⟩] rfl N10 (by omega) (show g5 + 1 ≤ v5.heap.size from N8.lt) ?_
            intro u8 v8 O9 b8
            have N9 := N8.below b8 (by omega)
            have Z9 := Z8.below b8 (by omega)
            have hb9 : Bs v8 (some ⟨gB, 0, none⟩) 128 B := ⟨hb8.1, hb8.2.keep0 (fun o => b8.cell (p := ⟨gB, o, none⟩) (by show gB < g5 + 1; omega))⟩
            have t9 := t8.trans (b8.mono (show w.heap.size ≤ g5 + 1 by omega))
            refine hK.out _ _ ⟨hb9.at (15 + 6 * k) (by omega) sl HSL.out, hb9.at (16 + 6 * k) (by omega) bb HBB.out⟩ (fun hS' => ?_)
            clear hK K hS N8 Z8 hb8 t8 O8 b8 N10
            have hS := hS'
            clear hS'
            rw [← HRE.out, ← rdRs_succ] at O9
            obtain ⟨A8, c8, rfl, _⟩ := O9.rs (rdRs_len _ _)
            try simp only [Act.put, List.getElem_toArray, List.getElem_cons_zero, List.getElem_cons_succ, List.setIfInBounds_toArray, List.set_cons_zero, List.set_cons_succ]
            refine wpAnyH_take (i := 23) (oi := _) (v := ?_) rfl (by kernel_rfl) (by kernel_rfl) (by kernel_rfl) (fun _ _ _ h => h) (Or.inl ⟨by rfl, ?_⟩) hS ?_
            rotate_left
            · (intro w hSw; (try dsimp only at hSw); go_simp; (try with_reducible rfl))
            rotate_left
            simp only [Act.put, List.getElem_toArray, List.getElem_cons_zero, List.getElem_cons_succ, List.setIfInBounds_toArray, List.set_cons_zero, List.set_cons_succ]
            refine wpAnyH_ready (rs := [24]) (by kernel_rfl) (by simp) ?_
            refine AllReadyH.cons rfl (fun K hK => ?_) AllReadyH.nil
            rw [if_pos (by rfl)]
            have fN := N9.free
            have yN := N9.cell
            go_simp
            clear fN yN
            have t10 := Below.setCell (p := ⟨g5, 4, none⟩) t9 (show w.heap.size ≤ g5 by omega) (.slice A8 (k + 1) c8)
            have N10 : BoxOf _ g5 #[.int .u32 (id : Int), .int .u32 (age : Int), .int .u32 (sq : Int), .int .i64 (st : Int), .slice A8 (k + 1) c8] 25 := nbox_field N9 4 (.slice A8 (k + 1) c8)
            have Z10 := nbox_else Z9 (show w.heap.size ≠ g5 by omega) 4 (.slice A8 (k + 1) c8)
            have O10 := OwnR.set O9 (show g5 < g5 + 1 by omega) 4 (.slice A8 (k + 1) c8)
            have hb10 := hb9.setOther (show gB ≠ g5 by omega) 4 (.slice A8 (k + 1) c8)
            refine hK.out _ _ ⟨hb10.at (15 + 6 * k) (by omega) sl HSL.out, hb10.at (16 + 6 * k) (by omega) bb HBB.out⟩ (fun hS' => ?_)
            clear hK K hS hS' N9 Z9 hb9 t9 O9
            try simp only [Act.put, List.getElem_toArray, List.getElem_cons_zero, List.getElem_cons_succ, List.setIfInBounds_toArray, List.set_cons_zero, List.set_cons_succ]
            refine wpAnyH_done (by kernel_rfl) ?_ _
            go_wp2
            go_roundw
            case rel => exact ⟨k + 1, .slice A8 (k + 1) c8, by omega, by go_num, N10, Z10, hb10, t10, O10⟩
            case measure => simp [intOf]; omega
      · have hkm : k = m := by omega
        have hm2 := HM2.out
        have hx : (decide ((k : Int) < (mm : Int)) = false ∧ decide (k < mm) = false) ∨ (decide ((k : Int) < (mm : Int)) = true ∧ decide (k < mm) = true ∧ decide ((k : Int) < 16) = false ∧ decide (k < 16) = false) := by
          simp only [decide_eq_true_eq, decide_eq_false_iff_not]
          omega
        rw [hkm, ← G7.out] at O6
        obtain ⟨A', c', rfl, R6⟩ := O6.rs HRL.out
        have HX := Lib.hid hx
        have LL := Lib.hid (And.intro l6 (And.intro l7 lB))
        have HM16 := Lib.hid hm16
        rw [hkm] at *
        clear l1 l2 l3 l4 l5 l6 l7 lB hm16 hmm1 hBl hlen hm2 hx hlt hk hkm
        have qm := QM.out
        rcases HX.out with ⟨e1, e2⟩ | ⟨e1, e2, e3, e4⟩
        · clear HX
          go_upto_region 9 with fail
          clear qm c14 e1 e2
          obtain ⟨l6, l7, lB⟩ := LL.out
          refine wp_region_held_drew (S := fun w' => (BoxOf w' g5 #[.int .u32 (id : Int), .int .u32 (age : Int), .int .u32 (sq : Int), .int .i64 (st : Int), .slice A' m c'] 25 ∧ Bs w' (some ⟨gB, 0, none⟩) 128 B) ∧ ∀ o, w'.cell? ⟨g5, o, none⟩ = (#[.int .u32 (id : Int), .int .u32 (age : Int), .int .u32 (sq : Int), .int .i64 (st : Int), .slice A' m c'] : Array Value).toList[o]?) (by kernel_rfl) ⟨⟨N6.drew, hb6⟩, N6.drew.cell⟩ (fun hS => ?_)
          have Z8 := Z6.drew
          have t8 := Ext.drew t6
          have R8 : Rs wr.drew A' m rs := R6
          have O8 : OwnR wr.drew (g5 + 1) (.slice A' m c') m rs := O6
          clear N6 hb6 Z6 t6 R6 O6
          generalize wr.drew = v at *
          refine wpAnyH_take (i := 0) (oi := _) (v := ?_) rfl (by kernel_rfl) (by kernel_rfl) (by kernel_rfl) (fun _ _ _ h => h) (Or.inl ⟨by rfl, ?_⟩) hS ?_
          rotate_left
          · (intro w hSw; (try dsimp only at hSw); go_simp; (try with_reducible rfl))
          rotate_left
          simp only [Act.put, List.getElem_toArray, List.getElem_cons_zero, List.getElem_cons_succ, List.setIfInBounds_toArray, List.set_cons_zero, List.set_cons_succ]
          refine wpAnyH_ready (rs := [1]) (by kernel_rfl) (by simp) ?_
          refine AllReadyH.cons rfl (fun K hK => ?_) AllReadyH.nil
          rw [if_pos (by rfl)]
          go_simp
          refine (HM.out _ _ _ R8).mono ?_
          rintro e v1 ⟨rfl, b1⟩
          have Z9 := Z8.next b1
          have t9 := Ext.trans t8 b1
          have R9 := R8.below b1
          have O9 := O8.next b1
          refine hK.out _ _ ⟨⟨hS.1.1.next b1, hS.1.2.below b1⟩, (hS.1.1.next b1).cell⟩ (fun hS' => ?_)
          clear hK K hS Z8 t8 R8 O8 b1
          have hS := hS'
          clear hS'
          rcases HBAD.out with ⟨rfl, hB | ⟨hB, hne⟩⟩ | ⟨rfl, hB, heq⟩
          · rw [hB]
            clear HBAD
            try simp only [Act.put, List.getElem_toArray, List.getElem_cons_zero, List.getElem_cons_succ, List.setIfInBounds_toArray, List.set_cons_zero, List.set_cons_succ]
            refine wpAnyH_take (i := 2) (oi := _) (v := ?_) rfl (by kernel_rfl) (by kernel_rfl) (by kernel_rfl) (fun _ _ _ h => h) (Or.inl ⟨by rfl, ?_⟩) hS ?_
            rotate_left
            · (intro w hSw; (try dsimp only at hSw); go_simp; (try with_reducible rfl))
            rotate_left
            simp only [Act.put, List.getElem_toArray, List.getElem_cons_zero, List.getElem_cons_succ, List.setIfInBounds_toArray, List.set_cons_zero, List.set_cons_succ]
            refine wpAnyH_take (i := 3) (oi := _) (v := ?_) rfl (by kernel_rfl) (by kernel_rfl) (by kernel_rfl) (fun _ _ _ h => h) (Or.inl ⟨by rfl, ?_⟩) hS ?_
            rotate_left
            · (intro w hSw; (try dsimp only at hSw); go_simp; (try with_reducible rfl))
            rotate_left
            simp only [Act.put, List.getElem_toArray, List.getElem_cons_zero, List.getElem_cons_succ, List.setIfInBounds_toArray, List.set_cons_zero, List.set_cons_succ]
            refine wpAnyH_take (i := 4) (oi := _) (v := ?_) rfl (by kernel_rfl) (by kernel_rfl) (by kernel_rfl) (fun _ _ _ h => h) (Or.inr ⟨by rfl, ?_⟩) hS ?_
            rotate_left
            · rfl
            rotate_left
            simp only [Act.put, List.getElem_toArray, List.getElem_cons_zero, List.getElem_cons_succ, List.setIfInBounds_toArray, List.set_cons_zero, List.set_cons_succ]
            refine wpAnyH_take (i := 5) (oi := _) (v := ?_) rfl (by kernel_rfl) (by kernel_rfl) (by kernel_rfl) (fun _ _ _ h => h) (Or.inr ⟨by rfl, ?_⟩) hS ?_
            rotate_left
            · rfl
            rotate_left
            simp only [Act.put, List.getElem_toArray, List.getElem_cons_zero, List.getElem_cons_succ, List.setIfInBounds_toArray, List.set_cons_zero, List.set_cons_succ]
            refine wpAnyH_take (i := 6) (oi := _) (v := ?_) rfl (by kernel_rfl) (by kernel_rfl) (by kernel_rfl) (fun _ _ _ h => h) (Or.inr ⟨by rfl, ?_⟩) hS ?_
            rotate_left
            · rfl
            rotate_left
            simp only [Act.put, List.getElem_toArray, List.getElem_cons_zero, List.getElem_cons_succ, List.setIfInBounds_toArray, List.set_cons_zero, List.set_cons_succ]
            refine wpAnyH_take (i := 7) (oi := _) (v := ?_) rfl (by kernel_rfl) (by kernel_rfl) (by kernel_rfl) (fun _ _ _ h => h) (Or.inr ⟨by rfl, ?_⟩) hS ?_
            rotate_left
            · rfl
            rotate_left
            simp only [Act.put, List.getElem_toArray, List.getElem_cons_zero, List.getElem_cons_succ, List.setIfInBounds_toArray, List.set_cons_zero, List.set_cons_succ]
            refine wpAnyH_take (i := 8) (oi := _) (v := ?_) rfl (by kernel_rfl) (by kernel_rfl) (by kernel_rfl) (fun _ _ _ h => h) (Or.inr ⟨by rfl, ?_⟩) hS ?_
            rotate_left
            · rfl
            rotate_left
            simp only [Act.put, List.getElem_toArray, List.getElem_cons_zero, List.getElem_cons_succ, List.setIfInBounds_toArray, List.set_cons_zero, List.set_cons_succ]
            refine wpAnyH_take (i := 9) (oi := _) (v := ?_) rfl (by kernel_rfl) (by kernel_rfl) (by kernel_rfl) (fun _ _ _ h => h) (Or.inr ⟨by rfl, ?_⟩) hS ?_
            rotate_left
            · rfl
            rotate_left
            simp only [Act.put, List.getElem_toArray, List.getElem_cons_zero, List.getElem_cons_succ, List.setIfInBounds_toArray, List.set_cons_zero, List.set_cons_succ]
            refine wpAnyH_take (i := 10) (oi := _) (v := ?_) rfl (by kernel_rfl) (by kernel_rfl) (by kernel_rfl) (fun _ _ _ h => h) (Or.inl ⟨by rfl, ?_⟩) hS ?_
            rotate_left
            · (intro w hSw; (try dsimp only at hSw); go_simp; (try with_reducible rfl))
            rotate_left
            simp only [Act.put, List.getElem_toArray, List.getElem_cons_zero, List.getElem_cons_succ, List.setIfInBounds_toArray, List.set_cons_zero, List.set_cons_succ]
            refine wpAnyH_done (by kernel_rfl) ?_ _
            have z9 := Z9.cell
            have f9 := Z9.free
            clear hS
            go_wp2
            have B6 : BoxOf _ w.heap.size #[.int .u32 0, .int .u32 0, .int .u32 0, .int .i64 0, .slice none 0 0] 25 := nbox5 Z9 (.int .u32 0) (.int .u32 0) (.int .u32 0) (.int .i64 0) (.slice none 0 0)
            have T6 := nbelow5 t9 (show w.heap.size ≤ w.heap.size by omega) (.int .u32 0) (.int .u32 0) (.int .u32 0) (.int .i64 0) (.slice none 0 0)
            have O6 := nown5 O9 (show w.heap.size < g5 + 1 by omega) (.int .u32 0) (.int .u32 0) (.int .u32 0) (.int .i64 0) (.slice none 0 0)
            refine bodyPost_ret (v := .tuple #[.agg #[.int .u32 0, .int .u32 0, .int .u32 0, .int .i64 0, .slice none 0 0], .int .i64 90]) (Eq.trans (results_row2 (P := Try.prog) (fn := Try.f18) (p := 2) (u := 3) (ty := 25) rfl _ _ w.heap.size 25 #[.int .u32 0, .int .u32 0, .int .u32 0, .int .i64 0, .slice none 0 0] (0, 0) _ rfl B6 Try.underlying25 rfl (by kernel_rfl)) rfl) rfl ?_
            exact ⟨rfl, T6⟩
          · rw [hB]
            have HNE : Hid ((!noteBlock id age sq st rs == B) = true) := by show _ = _; simpa using hne
            clear HBAD hne
            try simp only [Act.put, List.getElem_toArray, List.getElem_cons_zero, List.getElem_cons_succ, List.setIfInBounds_toArray, List.set_cons_zero, List.set_cons_succ]
            refine wpAnyH_take (i := 2) (oi := _) (v := ?_) rfl (by kernel_rfl) (by kernel_rfl) (by kernel_rfl) (fun _ _ _ h => h) (Or.inl ⟨by rfl, ?_⟩) hS ?_
            rotate_left
            · (intro w hSw; (try dsimp only at hSw); go_simp; (try with_reducible rfl))
            rotate_left
            simp only [Act.put, List.getElem_toArray, List.getElem_cons_zero, List.getElem_cons_succ, List.setIfInBounds_toArray, List.set_cons_zero, List.set_cons_succ]
            refine wpAnyH_take (i := 3) (oi := _) (v := ?_) rfl (by kernel_rfl) (by kernel_rfl) (by kernel_rfl) (fun _ _ _ h => h) (Or.inl ⟨by rfl, ?_⟩) hS ?_
            rotate_left
            · (intro w hSw; (try dsimp only at hSw); go_simp; (try with_reducible rfl))
            rotate_left
            simp only [Act.put, List.getElem_toArray, List.getElem_cons_zero, List.getElem_cons_succ, List.setIfInBounds_toArray, List.set_cons_zero, List.set_cons_succ]
            refine wpAnyH_take (i := 4) (oi := _) (v := ?_) rfl (by kernel_rfl) (by kernel_rfl) (by kernel_rfl) (fun _ _ _ h => h) (Or.inl ⟨by rfl, ?_⟩) hS ?_
            rotate_left
            · (intro w hSw; (try dsimp only at hSw); go_simp; (try with_reducible rfl))
            rotate_left
            simp only [Act.put, List.getElem_toArray, List.getElem_cons_zero, List.getElem_cons_succ, List.setIfInBounds_toArray, List.set_cons_zero, List.set_cons_succ]
            refine wpAnyH_take (i := 7) (oi := _) (v := ?_) rfl (by kernel_rfl) (by kernel_rfl) (by kernel_rfl) (fun _ _ _ h => h) (Or.inl ⟨by rfl, ?_⟩) hS ?_
            rotate_left
            · (intro w hSw; (try dsimp only at hSw); go_simp; (try with_reducible rfl))
            rotate_left
            simp only [Act.put, List.getElem_toArray, List.getElem_cons_zero, List.getElem_cons_succ, List.setIfInBounds_toArray, List.set_cons_zero, List.set_cons_succ]
            refine wpAnyH_take (i := 8) (oi := _) (v := ?_) rfl (by kernel_rfl) (by kernel_rfl) (by kernel_rfl) (fun _ _ _ h => h) (Or.inl ⟨by rfl, ?_⟩) hS ?_
            rotate_left
            · (intro w hSw; have sq := run_string_bs (P := Try.prog) 128 32 9 5 Try.underlying32 Try.underlying5 Try.underlying9 hSw.1.2; (try dsimp only at hSw); go_simp; (try with_reducible rfl))
            rotate_left
            simp only [Act.put, List.getElem_toArray, List.getElem_cons_zero, List.getElem_cons_succ, List.setIfInBounds_toArray, List.set_cons_zero, List.set_cons_succ]
            refine wpAnyH_ready (rs := [5]) (by kernel_rfl) (by simp) ?_
            refine AllReadyH.cons rfl (fun K hK => ?_) AllReadyH.nil
            rw [if_pos (by rfl)]
            go_simp
            refine (HBK2.out _ _ _ R9).mono ?_
            rintro e v2 ⟨P9, c9, rfl, hb9, b2⟩
            have Z10 := Z9.next b2
            have t10 := Ext.trans t9 b2
            have O10 := O9.next b2
            refine hK.out _ _ ⟨⟨hS.1.1.next b2, hS.1.2.below b2⟩, (hS.1.1.next b2).cell⟩ (fun hS' => ?_)
            clear hK K hS Z9 t9 R9 O9 b2
            have hS := hS'
            have Z9 := Z10
            have t9 := t10
            have O9 := O10
            clear hS' Z10 t10 O10
            try simp only [Act.put, List.getElem_toArray, List.getElem_cons_zero, List.getElem_cons_succ, List.setIfInBounds_toArray, List.set_cons_zero, List.set_cons_succ]
            refine wpAnyH_ready (rs := [6]) (by kernel_rfl) (by simp) ?_
            refine AllReadyH.cons rfl (fun K hK => ?_) AllReadyH.nil
            rw [if_pos (by rfl)]
            have sq9 := run_string_bs (P := Try.prog) c9 32 9 5 Try.underlying32 Try.underlying5 Try.underlying9 hb9
            go_simp
            refine hK.out _ _ hS (fun hS' => ?_)
            clear hK K hS sq9 hb9
            have hS := hS'
            clear hS'
            try simp only [Act.put, List.getElem_toArray, List.getElem_cons_zero, List.getElem_cons_succ, List.setIfInBounds_toArray, List.set_cons_zero, List.set_cons_succ]
            have hne9 := HNE.out
            refine wpAnyH_take (i := 9) (oi := _) (v := ?_) rfl (by kernel_rfl) (by kernel_rfl) (by kernel_rfl) (fun _ _ _ h => h) (Or.inl ⟨by rfl, ?_⟩) hS ?_
            rotate_left
            · (intro w hSw; (try dsimp only at hSw); go_simp; (try with_reducible rfl))
            rotate_left
            simp only [Act.put, List.getElem_toArray, List.getElem_cons_zero, List.getElem_cons_succ, List.setIfInBounds_toArray, List.set_cons_zero, List.set_cons_succ]
            clear hne9
            refine wpAnyH_take (i := 10) (oi := _) (v := ?_) rfl (by kernel_rfl) (by kernel_rfl) (by kernel_rfl) (fun _ _ _ h => h) (Or.inl ⟨by rfl, ?_⟩) hS ?_
            rotate_left
            · (intro w hSw; (try dsimp only at hSw); go_simp; (try with_reducible rfl))
            rotate_left
            simp only [Act.put, List.getElem_toArray, List.getElem_cons_zero, List.getElem_cons_succ, List.setIfInBounds_toArray, List.set_cons_zero, List.set_cons_succ]
            refine wpAnyH_done (by kernel_rfl) ?_ _
            have z9 := Z9.cell
            have f9 := Z9.free
            clear hS HNE
            go_wp2
            have B6 : BoxOf _ w.heap.size #[.int .u32 0, .int .u32 0, .int .u32 0, .int .i64 0, .slice none 0 0] 25 := nbox5 Z9 (.int .u32 0) (.int .u32 0) (.int .u32 0) (.int .i64 0) (.slice none 0 0)
            have T6 := nbelow5 t9 (show w.heap.size ≤ w.heap.size by omega) (.int .u32 0) (.int .u32 0) (.int .u32 0) (.int .i64 0) (.slice none 0 0)
            have O6 := nown5 O9 (show w.heap.size < g5 + 1 by omega) (.int .u32 0) (.int .u32 0) (.int .u32 0) (.int .i64 0) (.slice none 0 0)
            refine bodyPost_ret (v := .tuple #[.agg #[.int .u32 0, .int .u32 0, .int .u32 0, .int .i64 0, .slice none 0 0], .int .i64 90]) (Eq.trans (results_row2 (P := Try.prog) (fn := Try.f18) (p := 2) (u := 3) (ty := 25) rfl _ _ w.heap.size 25 #[.int .u32 0, .int .u32 0, .int .u32 0, .int .i64 0, .slice none 0 0] (0, 0) _ rfl B6 Try.underlying25 rfl (by kernel_rfl)) rfl) rfl ?_
            exact ⟨rfl, T6⟩
          · rw [hB]
            have HNE : Hid ((!noteBlock id age sq st rs == B) = false) := by show _ = _; rw [heq]; simp
            clear HBAD heq
            try simp only [Act.put, List.getElem_toArray, List.getElem_cons_zero, List.getElem_cons_succ, List.setIfInBounds_toArray, List.set_cons_zero, List.set_cons_succ]
            refine wpAnyH_take (i := 2) (oi := _) (v := ?_) rfl (by kernel_rfl) (by kernel_rfl) (by kernel_rfl) (fun _ _ _ h => h) (Or.inl ⟨by rfl, ?_⟩) hS ?_
            rotate_left
            · (intro w hSw; (try dsimp only at hSw); go_simp; (try with_reducible rfl))
            rotate_left
            simp only [Act.put, List.getElem_toArray, List.getElem_cons_zero, List.getElem_cons_succ, List.setIfInBounds_toArray, List.set_cons_zero, List.set_cons_succ]
            refine wpAnyH_take (i := 3) (oi := _) (v := ?_) rfl (by kernel_rfl) (by kernel_rfl) (by kernel_rfl) (fun _ _ _ h => h) (Or.inl ⟨by rfl, ?_⟩) hS ?_
            rotate_left
            · (intro w hSw; (try dsimp only at hSw); go_simp; (try with_reducible rfl))
            rotate_left
            simp only [Act.put, List.getElem_toArray, List.getElem_cons_zero, List.getElem_cons_succ, List.setIfInBounds_toArray, List.set_cons_zero, List.set_cons_succ]
            refine wpAnyH_take (i := 4) (oi := _) (v := ?_) rfl (by kernel_rfl) (by kernel_rfl) (by kernel_rfl) (fun _ _ _ h => h) (Or.inl ⟨by rfl, ?_⟩) hS ?_
            rotate_left
            · (intro w hSw; (try dsimp only at hSw); go_simp; (try with_reducible rfl))
            rotate_left
            simp only [Act.put, List.getElem_toArray, List.getElem_cons_zero, List.getElem_cons_succ, List.setIfInBounds_toArray, List.set_cons_zero, List.set_cons_succ]
            refine wpAnyH_take (i := 7) (oi := _) (v := ?_) rfl (by kernel_rfl) (by kernel_rfl) (by kernel_rfl) (fun _ _ _ h => h) (Or.inl ⟨by rfl, ?_⟩) hS ?_
            rotate_left
            · (intro w hSw; (try dsimp only at hSw); go_simp; (try with_reducible rfl))
            rotate_left
            simp only [Act.put, List.getElem_toArray, List.getElem_cons_zero, List.getElem_cons_succ, List.setIfInBounds_toArray, List.set_cons_zero, List.set_cons_succ]
            refine wpAnyH_take (i := 8) (oi := _) (v := ?_) rfl (by kernel_rfl) (by kernel_rfl) (by kernel_rfl) (fun _ _ _ h => h) (Or.inl ⟨by rfl, ?_⟩) hS ?_
            rotate_left
            · (intro w hSw; have sq := run_string_bs (P := Try.prog) 128 32 9 5 Try.underlying32 Try.underlying5 Try.underlying9 hSw.1.2; (try dsimp only at hSw); go_simp; (try with_reducible rfl))
            rotate_left
            simp only [Act.put, List.getElem_toArray, List.getElem_cons_zero, List.getElem_cons_succ, List.setIfInBounds_toArray, List.set_cons_zero, List.set_cons_succ]
            refine wpAnyH_ready (rs := [5]) (by kernel_rfl) (by simp) ?_
            refine AllReadyH.cons rfl (fun K hK => ?_) AllReadyH.nil
            rw [if_pos (by rfl)]
            go_simp
            refine (HBK2.out _ _ _ R9).mono ?_
            rintro e v2 ⟨P9, c9, rfl, hb9, b2⟩
            have Z10 := Z9.next b2
            have t10 := Ext.trans t9 b2
            have O10 := O9.next b2
            refine hK.out _ _ ⟨⟨hS.1.1.next b2, hS.1.2.below b2⟩, (hS.1.1.next b2).cell⟩ (fun hS' => ?_)
            clear hK K hS Z9 t9 R9 O9 b2
            have hS := hS'
            have Z9 := Z10
            have t9 := t10
            have O9 := O10
            clear hS' Z10 t10 O10
            try simp only [Act.put, List.getElem_toArray, List.getElem_cons_zero, List.getElem_cons_succ, List.setIfInBounds_toArray, List.set_cons_zero, List.set_cons_succ]
            refine wpAnyH_ready (rs := [6]) (by kernel_rfl) (by simp) ?_
            refine AllReadyH.cons rfl (fun K hK => ?_) AllReadyH.nil
            rw [if_pos (by rfl)]
            have sq9 := run_string_bs (P := Try.prog) c9 32 9 5 Try.underlying32 Try.underlying5 Try.underlying9 hb9
            go_simp
            refine hK.out _ _ hS (fun hS' => ?_)
            clear hK K hS sq9 hb9
            have hS := hS'
            clear hS'
            try simp only [Act.put, List.getElem_toArray, List.getElem_cons_zero, List.getElem_cons_succ, List.setIfInBounds_toArray, List.set_cons_zero, List.set_cons_succ]
            have hne9 := HNE.out
            refine wpAnyH_take (i := 9) (oi := _) (v := ?_) rfl (by kernel_rfl) (by kernel_rfl) (by kernel_rfl) (fun _ _ _ h => h) (Or.inl ⟨by rfl, ?_⟩) hS ?_
            rotate_left
            · (intro w hSw; (try dsimp only at hSw); go_simp; (try with_reducible rfl))
            rotate_left
            simp only [Act.put, List.getElem_toArray, List.getElem_cons_zero, List.getElem_cons_succ, List.setIfInBounds_toArray, List.set_cons_zero, List.set_cons_succ]
            clear hne9
            refine wpAnyH_take (i := 10) (oi := _) (v := ?_) rfl (by kernel_rfl) (by kernel_rfl) (by kernel_rfl) (fun _ _ _ h => h) (Or.inl ⟨by rfl, ?_⟩) hS ?_
            rotate_left
            · (intro w hSw; (try dsimp only at hSw); go_simp; (try with_reducible rfl))
            rotate_left
            simp only [Act.put, List.getElem_toArray, List.getElem_cons_zero, List.getElem_cons_succ, List.setIfInBounds_toArray, List.set_cons_zero, List.set_cons_succ]
            refine wpAnyH_done (by kernel_rfl) ?_ _
            have z9 := Z9.cell
            have f9 := Z9.free
            have n9 := hS.2
            clear hS HNE
            go_wp2
            have B6 : BoxOf _ w.heap.size #[.int .u32 (id : Int), .int .u32 (age : Int), .int .u32 (sq : Int), .int .i64 (st : Int), .slice A' m c'] 25 := nbox5 Z9 (.int .u32 (id : Int)) (.int .u32 (age : Int)) (.int .u32 (sq : Int)) (.int .i64 (st : Int)) (.slice A' m c')
            have T6 := nbelow5 t9 (show w.heap.size ≤ w.heap.size by omega) (.int .u32 (id : Int)) (.int .u32 (age : Int)) (.int .u32 (sq : Int)) (.int .i64 (st : Int)) (.slice A' m c')
            have O6 := nown5 O9 (show w.heap.size < g5 + 1 by omega) (.int .u32 (id : Int)) (.int .u32 (age : Int)) (.int .u32 (sq : Int)) (.int .i64 (st : Int)) (.slice A' m c')
            refine bodyPost_ret (v := .tuple #[.agg #[.int .u32 (id : Int), .int .u32 (age : Int), .int .u32 (sq : Int), .int .i64 (st : Int), .slice A' m c'], .int .i64 0]) (Eq.trans (results_row2 (P := Try.prog) (fn := Try.f18) (p := 2) (u := 3) (ty := 25) rfl _ _ w.heap.size 25 #[.int .u32 (id : Int), .int .u32 (age : Int), .int .u32 (sq : Int), .int .i64 (st : Int), .slice A' m c'] (0, 0) _ rfl B6 Try.underlying25 rfl (by kernel_rfl)) rfl) rfl ?_
            exact ⟨⟨A', ⟨c', rfl⟩, O6.rs' HRL.out⟩, T6⟩
        · clear HX
          go_upto_region 9 with fail
          clear qm c14 e1 e2 e3 e4
          obtain ⟨l6, l7, lB⟩ := LL.out
          refine wp_region_held_drew (S := fun w' => (BoxOf w' g5 #[.int .u32 (id : Int), .int .u32 (age : Int), .int .u32 (sq : Int), .int .i64 (st : Int), .slice A' m c'] 25 ∧ Bs w' (some ⟨gB, 0, none⟩) 128 B) ∧ ∀ o, w'.cell? ⟨g5, o, none⟩ = (#[.int .u32 (id : Int), .int .u32 (age : Int), .int .u32 (sq : Int), .int .i64 (st : Int), .slice A' m c'] : Array Value).toList[o]?) (by kernel_rfl) ⟨⟨N6.drew, hb6⟩, N6.drew.cell⟩ (fun hS => ?_)
          have Z8 := Z6.drew
          have t8 := Ext.drew t6
          have R8 : Rs wr.drew A' m rs := R6
          have O8 : OwnR wr.drew (g5 + 1) (.slice A' m c') m rs := O6
          clear N6 hb6 Z6 t6 R6 O6
          generalize wr.drew = v at *
          refine wpAnyH_take (i := 0) (oi := _) (v := ?_) rfl (by kernel_rfl) (by kernel_rfl) (by kernel_rfl) (fun _ _ _ h => h) (Or.inl ⟨by rfl, ?_⟩) hS ?_
          rotate_left
          · (intro w hSw; (try dsimp only at hSw); go_simp; (try with_reducible rfl))
          rotate_left
          simp only [Act.put, List.getElem_toArray, List.getElem_cons_zero, List.getElem_cons_succ, List.setIfInBounds_toArray, List.set_cons_zero, List.set_cons_succ]
          refine wpAnyH_ready (rs := [1]) (by kernel_rfl) (by simp) ?_
          refine AllReadyH.cons rfl (fun K hK => ?_) AllReadyH.nil
          rw [if_pos (by rfl)]
          go_simp
          refine (HM.out _ _ _ R8).mono ?_
          rintro e v1 ⟨rfl, b1⟩
          have Z9 := Z8.next b1
          have t9 := Ext.trans t8 b1
          have R9 := R8.below b1
          have O9 := O8.next b1
          refine hK.out _ _ ⟨⟨hS.1.1.next b1, hS.1.2.below b1⟩, (hS.1.1.next b1).cell⟩ (fun hS' => ?_)
          clear hK K hS Z8 t8 R8 O8 b1
          have hS := hS'
          clear hS'
          rcases HBAD.out with ⟨rfl, hB | ⟨hB, hne⟩⟩ | ⟨rfl, hB, heq⟩
          · rw [hB]
            clear HBAD
            try simp only [Act.put, List.getElem_toArray, List.getElem_cons_zero, List.getElem_cons_succ, List.setIfInBounds_toArray, List.set_cons_zero, List.set_cons_succ]
            refine wpAnyH_take (i := 2) (oi := _) (v := ?_) rfl (by kernel_rfl) (by kernel_rfl) (by kernel_rfl) (fun _ _ _ h => h) (Or.inl ⟨by rfl, ?_⟩) hS ?_
            rotate_left
            · (intro w hSw; (try dsimp only at hSw); go_simp; (try with_reducible rfl))
            rotate_left
            simp only [Act.put, List.getElem_toArray, List.getElem_cons_zero, List.getElem_cons_succ, List.setIfInBounds_toArray, List.set_cons_zero, List.set_cons_succ]
            refine wpAnyH_take (i := 3) (oi := _) (v := ?_) rfl (by kernel_rfl) (by kernel_rfl) (by kernel_rfl) (fun _ _ _ h => h) (Or.inl ⟨by rfl, ?_⟩) hS ?_
            rotate_left
            · (intro w hSw; (try dsimp only at hSw); go_simp; (try with_reducible rfl))
            rotate_left
            simp only [Act.put, List.getElem_toArray, List.getElem_cons_zero, List.getElem_cons_succ, List.setIfInBounds_toArray, List.set_cons_zero, List.set_cons_succ]
            refine wpAnyH_take (i := 4) (oi := _) (v := ?_) rfl (by kernel_rfl) (by kernel_rfl) (by kernel_rfl) (fun _ _ _ h => h) (Or.inr ⟨by rfl, ?_⟩) hS ?_
            rotate_left
            · rfl
            rotate_left
            simp only [Act.put, List.getElem_toArray, List.getElem_cons_zero, List.getElem_cons_succ, List.setIfInBounds_toArray, List.set_cons_zero, List.set_cons_succ]
            refine wpAnyH_take (i := 5) (oi := _) (v := ?_) rfl (by kernel_rfl) (by kernel_rfl) (by kernel_rfl) (fun _ _ _ h => h) (Or.inr ⟨by rfl, ?_⟩) hS ?_
            rotate_left
            · rfl
            rotate_left
            simp only [Act.put, List.getElem_toArray, List.getElem_cons_zero, List.getElem_cons_succ, List.setIfInBounds_toArray, List.set_cons_zero, List.set_cons_succ]
            refine wpAnyH_take (i := 6) (oi := _) (v := ?_) rfl (by kernel_rfl) (by kernel_rfl) (by kernel_rfl) (fun _ _ _ h => h) (Or.inr ⟨by rfl, ?_⟩) hS ?_
            rotate_left
            · rfl
            rotate_left
            simp only [Act.put, List.getElem_toArray, List.getElem_cons_zero, List.getElem_cons_succ, List.setIfInBounds_toArray, List.set_cons_zero, List.set_cons_succ]
            refine wpAnyH_take (i := 7) (oi := _) (v := ?_) rfl (by kernel_rfl) (by kernel_rfl) (by kernel_rfl) (fun _ _ _ h => h) (Or.inr ⟨by rfl, ?_⟩) hS ?_
            rotate_left
            · rfl
            rotate_left
            simp only [Act.put, List.getElem_toArray, List.getElem_cons_zero, List.getElem_cons_succ, List.setIfInBounds_toArray, List.set_cons_zero, List.set_cons_succ]
            refine wpAnyH_take (i := 8) (oi := _) (v := ?_) rfl (by kernel_rfl) (by kernel_rfl) (by kernel_rfl) (fun _ _ _ h => h) (Or.inr ⟨by rfl, ?_⟩) hS ?_
            rotate_left
            · rfl
            rotate_left
            simp only [Act.put, List.getElem_toArray, List.getElem_cons_zero, List.getElem_cons_succ, List.setIfInBounds_toArray, List.set_cons_zero, List.set_cons_succ]
            refine wpAnyH_take (i := 9) (oi := _) (v := ?_) rfl (by kernel_rfl) (by kernel_rfl) (by kernel_rfl) (fun _ _ _ h => h) (Or.inr ⟨by rfl, ?_⟩) hS ?_
            rotate_left
            · rfl
            rotate_left
            simp only [Act.put, List.getElem_toArray, List.getElem_cons_zero, List.getElem_cons_succ, List.setIfInBounds_toArray, List.set_cons_zero, List.set_cons_succ]
            refine wpAnyH_take (i := 10) (oi := _) (v := ?_) rfl (by kernel_rfl) (by kernel_rfl) (by kernel_rfl) (fun _ _ _ h => h) (Or.inl ⟨by rfl, ?_⟩) hS ?_
            rotate_left
            · (intro w hSw; (try dsimp only at hSw); go_simp; (try with_reducible rfl))
            rotate_left
            simp only [Act.put, List.getElem_toArray, List.getElem_cons_zero, List.getElem_cons_succ, List.setIfInBounds_toArray, List.set_cons_zero, List.set_cons_succ]
            refine wpAnyH_done (by kernel_rfl) ?_ _
            have z9 := Z9.cell
            have f9 := Z9.free
            clear hS
            go_wp2
            have B6 : BoxOf _ w.heap.size #[.int .u32 0, .int .u32 0, .int .u32 0, .int .i64 0, .slice none 0 0] 25 := nbox5 Z9 (.int .u32 0) (.int .u32 0) (.int .u32 0) (.int .i64 0) (.slice none 0 0)
            have T6 := nbelow5 t9 (show w.heap.size ≤ w.heap.size by omega) (.int .u32 0) (.int .u32 0) (.int .u32 0) (.int .i64 0) (.slice none 0 0)
            have O6 := nown5 O9 (show w.heap.size < g5 + 1 by omega) (.int .u32 0) (.int .u32 0) (.int .u32 0) (.int .i64 0) (.slice none 0 0)
            refine bodyPost_ret (v := .tuple #[.agg #[.int .u32 0, .int .u32 0, .int .u32 0, .int .i64 0, .slice none 0 0], .int .i64 90]) (Eq.trans (results_row2 (P := Try.prog) (fn := Try.f18) (p := 2) (u := 3) (ty := 25) rfl _ _ w.heap.size 25 #[.int .u32 0, .int .u32 0, .int .u32 0, .int .i64 0, .slice none 0 0] (0, 0) _ rfl B6 Try.underlying25 rfl (by kernel_rfl)) rfl) rfl ?_
            exact ⟨rfl, T6⟩
          · rw [hB]
            have HNE : Hid ((!noteBlock id age sq st rs == B) = true) := by show _ = _; simpa using hne
            clear HBAD hne
            try simp only [Act.put, List.getElem_toArray, List.getElem_cons_zero, List.getElem_cons_succ, List.setIfInBounds_toArray, List.set_cons_zero, List.set_cons_succ]
            refine wpAnyH_take (i := 2) (oi := _) (v := ?_) rfl (by kernel_rfl) (by kernel_rfl) (by kernel_rfl) (fun _ _ _ h => h) (Or.inl ⟨by rfl, ?_⟩) hS ?_
            rotate_left
            · (intro w hSw; (try dsimp only at hSw); go_simp; (try with_reducible rfl))
            rotate_left
            simp only [Act.put, List.getElem_toArray, List.getElem_cons_zero, List.getElem_cons_succ, List.setIfInBounds_toArray, List.set_cons_zero, List.set_cons_succ]
            refine wpAnyH_take (i := 3) (oi := _) (v := ?_) rfl (by kernel_rfl) (by kernel_rfl) (by kernel_rfl) (fun _ _ _ h => h) (Or.inl ⟨by rfl, ?_⟩) hS ?_
            rotate_left
            · (intro w hSw; (try dsimp only at hSw); go_simp; (try with_reducible rfl))
            rotate_left
            simp only [Act.put, List.getElem_toArray, List.getElem_cons_zero, List.getElem_cons_succ, List.setIfInBounds_toArray, List.set_cons_zero, List.set_cons_succ]
            refine wpAnyH_take (i := 4) (oi := _) (v := ?_) rfl (by kernel_rfl) (by kernel_rfl) (by kernel_rfl) (fun _ _ _ h => h) (Or.inl ⟨by rfl, ?_⟩) hS ?_
            rotate_left
            · (intro w hSw; (try dsimp only at hSw); go_simp; (try with_reducible rfl))
            rotate_left
            simp only [Act.put, List.getElem_toArray, List.getElem_cons_zero, List.getElem_cons_succ, List.setIfInBounds_toArray, List.set_cons_zero, List.set_cons_succ]
            refine wpAnyH_take (i := 7) (oi := _) (v := ?_) rfl (by kernel_rfl) (by kernel_rfl) (by kernel_rfl) (fun _ _ _ h => h) (Or.inl ⟨by rfl, ?_⟩) hS ?_
            rotate_left
            · (intro w hSw; (try dsimp only at hSw); go_simp; (try with_reducible rfl))
            rotate_left
            simp only [Act.put, List.getElem_toArray, List.getElem_cons_zero, List.getElem_cons_succ, List.setIfInBounds_toArray, List.set_cons_zero, List.set_cons_succ]
            refine wpAnyH_take (i := 8) (oi := _) (v := ?_) rfl (by kernel_rfl) (by kernel_rfl) (by kernel_rfl) (fun _ _ _ h => h) (Or.inl ⟨by rfl, ?_⟩) hS ?_
            rotate_left
            · (intro w hSw; have sq := run_string_bs (P := Try.prog) 128 32 9 5 Try.underlying32 Try.underlying5 Try.underlying9 hSw.1.2; (try dsimp only at hSw); go_simp; (try with_reducible rfl))
            rotate_left
            simp only [Act.put, List.getElem_toArray, List.getElem_cons_zero, List.getElem_cons_succ, List.setIfInBounds_toArray, List.set_cons_zero, List.set_cons_succ]
            refine wpAnyH_ready (rs := [5]) (by kernel_rfl) (by simp) ?_
            refine AllReadyH.cons rfl (fun K hK => ?_) AllReadyH.nil
            rw [if_pos (by rfl)]
            go_simp
            refine (HBK2.out _ _ _ R9).mono ?_
            rintro e v2 ⟨P9, c9, rfl, hb9, b2⟩
            have Z10 := Z9.next b2
            have t10 := Ext.trans t9 b2
            have O10 := O9.next b2
            refine hK.out _ _ ⟨⟨hS.1.1.next b2, hS.1.2.below b2⟩, (hS.1.1.next b2).cell⟩ (fun hS' => ?_)
            clear hK K hS Z9 t9 R9 O9 b2
            have hS := hS'
            have Z9 := Z10
            have t9 := t10
            have O9 := O10
            clear hS' Z10 t10 O10
            try simp only [Act.put, List.getElem_toArray, List.getElem_cons_zero, List.getElem_cons_succ, List.setIfInBounds_toArray, List.set_cons_zero, List.set_cons_succ]
            refine wpAnyH_ready (rs := [6]) (by kernel_rfl) (by simp) ?_
            refine AllReadyH.cons rfl (fun K hK => ?_) AllReadyH.nil
            rw [if_pos (by rfl)]
            have sq9 := run_string_bs (P := Try.prog) c9 32 9 5 Try.underlying32 Try.underlying5 Try.underlying9 hb9
            go_simp
            refine hK.out _ _ hS (fun hS' => ?_)
            clear hK K hS sq9 hb9
            have hS := hS'
            clear hS'
            try simp only [Act.put, List.getElem_toArray, List.getElem_cons_zero, List.getElem_cons_succ, List.setIfInBounds_toArray, List.set_cons_zero, List.set_cons_succ]
            have hne9 := HNE.out
            refine wpAnyH_take (i := 9) (oi := _) (v := ?_) rfl (by kernel_rfl) (by kernel_rfl) (by kernel_rfl) (fun _ _ _ h => h) (Or.inl ⟨by rfl, ?_⟩) hS ?_
            rotate_left
            · (intro w hSw; (try dsimp only at hSw); go_simp; (try with_reducible rfl))
            rotate_left
            simp only [Act.put, List.getElem_toArray, List.getElem_cons_zero, List.getElem_cons_succ, List.setIfInBounds_toArray, List.set_cons_zero, List.set_cons_succ]
            clear hne9
            refine wpAnyH_take (i := 10) (oi := _) (v := ?_) rfl (by kernel_rfl) (by kernel_rfl) (by kernel_rfl) (fun _ _ _ h => h) (Or.inl ⟨by rfl, ?_⟩) hS ?_
            rotate_left
            · (intro w hSw; (try dsimp only at hSw); go_simp; (try with_reducible rfl))
            rotate_left
            simp only [Act.put, List.getElem_toArray, List.getElem_cons_zero, List.getElem_cons_succ, List.setIfInBounds_toArray, List.set_cons_zero, List.set_cons_succ]
            refine wpAnyH_done (by kernel_rfl) ?_ _
            have z9 := Z9.cell
            have f9 := Z9.free
            clear hS HNE
            go_wp2
            have B6 : BoxOf _ w.heap.size #[.int .u32 0, .int .u32 0, .int .u32 0, .int .i64 0, .slice none 0 0] 25 := nbox5 Z9 (.int .u32 0) (.int .u32 0) (.int .u32 0) (.int .i64 0) (.slice none 0 0)
            have T6 := nbelow5 t9 (show w.heap.size ≤ w.heap.size by omega) (.int .u32 0) (.int .u32 0) (.int .u32 0) (.int .i64 0) (.slice none 0 0)
            have O6 := nown5 O9 (show w.heap.size < g5 + 1 by omega) (.int .u32 0) (.int .u32 0) (.int .u32 0) (.int .i64 0) (.slice none 0 0)
            refine bodyPost_ret (v := .tuple #[.agg #[.int .u32 0, .int .u32 0, .int .u32 0, .int .i64 0, .slice none 0 0], .int .i64 90]) (Eq.trans (results_row2 (P := Try.prog) (fn := Try.f18) (p := 2) (u := 3) (ty := 25) rfl _ _ w.heap.size 25 #[.int .u32 0, .int .u32 0, .int .u32 0, .int .i64 0, .slice none 0 0] (0, 0) _ rfl B6 Try.underlying25 rfl (by kernel_rfl)) rfl) rfl ?_
            exact ⟨rfl, T6⟩
          · rw [hB]
            have HNE : Hid ((!noteBlock id age sq st rs == B) = false) := by show _ = _; rw [heq]; simp
            clear HBAD heq
            try simp only [Act.put, List.getElem_toArray, List.getElem_cons_zero, List.getElem_cons_succ, List.setIfInBounds_toArray, List.set_cons_zero, List.set_cons_succ]
            refine wpAnyH_take (i := 2) (oi := _) (v := ?_) rfl (by kernel_rfl) (by kernel_rfl) (by kernel_rfl) (fun _ _ _ h => h) (Or.inl ⟨by rfl, ?_⟩) hS ?_
            rotate_left
            · (intro w hSw; (try dsimp only at hSw); go_simp; (try with_reducible rfl))
            rotate_left
            simp only [Act.put, List.getElem_toArray, List.getElem_cons_zero, List.getElem_cons_succ, List.setIfInBounds_toArray, List.set_cons_zero, List.set_cons_succ]
            refine wpAnyH_take (i := 3) (oi := _) (v := ?_) rfl (by kernel_rfl) (by kernel_rfl) (by kernel_rfl) (fun _ _ _ h => h) (Or.inl ⟨by rfl, ?_⟩) hS ?_
            rotate_left
            · (intro w hSw; (try dsimp only at hSw); go_simp; (try with_reducible rfl))
            rotate_left
            simp only [Act.put, List.getElem_toArray, List.getElem_cons_zero, List.getElem_cons_succ, List.setIfInBounds_toArray, List.set_cons_zero, List.set_cons_succ]
            refine wpAnyH_take (i := 4) (oi := _) (v := ?_) rfl (by kernel_rfl) (by kernel_rfl) (by kernel_rfl) (fun _ _ _ h => h) (Or.inl ⟨by rfl, ?_⟩) hS ?_
            rotate_left
            · (intro w hSw; (try dsimp only at hSw); go_simp; (try with_reducible rfl))
            rotate_left
            simp only [Act.put, List.getElem_toArray, List.getElem_cons_zero, List.getElem_cons_succ, List.setIfInBounds_toArray, List.set_cons_zero, List.set_cons_succ]
            refine wpAnyH_take (i := 7) (oi := _) (v := ?_) rfl (by kernel_rfl) (by kernel_rfl) (by kernel_rfl) (fun _ _ _ h => h) (Or.inl ⟨by rfl, ?_⟩) hS ?_
            rotate_left
            · (intro w hSw; (try dsimp only at hSw); go_simp; (try with_reducible rfl))
            rotate_left
            simp only [Act.put, List.getElem_toArray, List.getElem_cons_zero, List.getElem_cons_succ, List.setIfInBounds_toArray, List.set_cons_zero, List.set_cons_succ]
            refine wpAnyH_take (i := 8) (oi := _) (v := ?_) rfl (by kernel_rfl) (by kernel_rfl) (by kernel_rfl) (fun _ _ _ h => h) (Or.inl ⟨by rfl, ?_⟩) hS ?_
            rotate_left
            · (intro w hSw; have sq := run_string_bs (P := Try.prog) 128 32 9 5 Try.underlying32 Try.underlying5 Try.underlying9 hSw.1.2; (try dsimp only at hSw); go_simp; (try with_reducible rfl))
            rotate_left
            simp only [Act.put, List.getElem_toArray, List.getElem_cons_zero, List.getElem_cons_succ, List.setIfInBounds_toArray, List.set_cons_zero, List.set_cons_succ]
            refine wpAnyH_ready (rs := [5]) (by kernel_rfl) (by simp) ?_
            refine AllReadyH.cons rfl (fun K hK => ?_) AllReadyH.nil
            rw [if_pos (by rfl)]
            go_simp
            refine (HBK2.out _ _ _ R9).mono ?_
            rintro e v2 ⟨P9, c9, rfl, hb9, b2⟩
            have Z10 := Z9.next b2
            have t10 := Ext.trans t9 b2
            have O10 := O9.next b2
            refine hK.out _ _ ⟨⟨hS.1.1.next b2, hS.1.2.below b2⟩, (hS.1.1.next b2).cell⟩ (fun hS' => ?_)
            clear hK K hS Z9 t9 R9 O9 b2
            have hS := hS'
            have Z9 := Z10
            have t9 := t10
            have O9 := O10
            clear hS' Z10 t10 O10
            try simp only [Act.put, List.getElem_toArray, List.getElem_cons_zero, List.getElem_cons_succ, List.setIfInBounds_toArray, List.set_cons_zero, List.set_cons_succ]
            refine wpAnyH_ready (rs := [6]) (by kernel_rfl) (by simp) ?_
            refine AllReadyH.cons rfl (fun K hK => ?_) AllReadyH.nil
            rw [if_pos (by rfl)]
            have sq9 := run_string_bs (P := Try.prog) c9 32 9 5 Try.underlying32 Try.underlying5 Try.underlying9 hb9
            go_simp
            refine hK.out _ _ hS (fun hS' => ?_)
            clear hK K hS sq9 hb9
            have hS := hS'
            clear hS'
            try simp only [Act.put, List.getElem_toArray, List.getElem_cons_zero, List.getElem_cons_succ, List.setIfInBounds_toArray, List.set_cons_zero, List.set_cons_succ]
            have hne9 := HNE.out
            refine wpAnyH_take (i := 9) (oi := _) (v := ?_) rfl (by kernel_rfl) (by kernel_rfl) (by kernel_rfl) (fun _ _ _ h => h) (Or.inl ⟨by rfl, ?_⟩) hS ?_
            rotate_left
            · (intro w hSw; (try dsimp only at hSw); go_simp; (try with_reducible rfl))
            rotate_left
            simp only [Act.put, List.getElem_toArray, List.getElem_cons_zero, List.getElem_cons_succ, List.setIfInBounds_toArray, List.set_cons_zero, List.set_cons_succ]
            clear hne9
            refine wpAnyH_take (i := 10) (oi := _) (v := ?_) rfl (by kernel_rfl) (by kernel_rfl) (by kernel_rfl) (fun _ _ _ h => h) (Or.inl ⟨by rfl, ?_⟩) hS ?_
            rotate_left
            · (intro w hSw; (try dsimp only at hSw); go_simp; (try with_reducible rfl))
            rotate_left
            simp only [Act.put, List.getElem_toArray, List.getElem_cons_zero, List.getElem_cons_succ, List.setIfInBounds_toArray, List.set_cons_zero, List.set_cons_succ]
            refine wpAnyH_done (by kernel_rfl) ?_ _
            have z9 := Z9.cell
            have f9 := Z9.free
            have n9 := hS.2
            clear hS HNE
            go_wp2
            have B6 : BoxOf _ w.heap.size #[.int .u32 (id : Int), .int .u32 (age : Int), .int .u32 (sq : Int), .int .i64 (st : Int), .slice A' m c'] 25 := nbox5 Z9 (.int .u32 (id : Int)) (.int .u32 (age : Int)) (.int .u32 (sq : Int)) (.int .i64 (st : Int)) (.slice A' m c')
            have T6 := nbelow5 t9 (show w.heap.size ≤ w.heap.size by omega) (.int .u32 (id : Int)) (.int .u32 (age : Int)) (.int .u32 (sq : Int)) (.int .i64 (st : Int)) (.slice A' m c')
            have O6 := nown5 O9 (show w.heap.size < g5 + 1 by omega) (.int .u32 (id : Int)) (.int .u32 (age : Int)) (.int .u32 (sq : Int)) (.int .i64 (st : Int)) (.slice A' m c')
            refine bodyPost_ret (v := .tuple #[.agg #[.int .u32 (id : Int), .int .u32 (age : Int), .int .u32 (sq : Int), .int .i64 (st : Int), .slice A' m c'], .int .i64 0]) (Eq.trans (results_row2 (P := Try.prog) (fn := Try.f18) (p := 2) (u := 3) (ty := 25) rfl _ _ w.heap.size 25 #[.int .u32 (id : Int), .int .u32 (age : Int), .int .u32 (sq : Int), .int .i64 (st : Int), .slice A' m c'] (0, 0) _ rfl B6 Try.underlying25 rfl (by kernel_rfl)) rfl) rfl ?_
            exact ⟨⟨A', ⟨c', rfl⟩, O6.rs' HRL.out⟩, T6⟩

set_option maxRecDepth 100000 in
theorem rnread_text (A : Option Addr) (n q : Nat) (h0 : n ≠ 0) (h1 : n ≠ 128) (w : World) :
    Calls Try.prog 18 #[.slice A n q] w fun e w' => e = .returned (.tuple #[.agg #[.int .u32 0, .int .u32 0, .int .u32 0, .int .i64 0, .slice none 0 0], .int .i64 3]) ∧ Below w.heap.size w w' := by
  have HT := Lib.hid (fun W => block_bad A n q h0 h1 W)
  clear h0 h1
  have Z1 := BoxOf.new w #[.int .u32 0, .int .u32 0, .int .u32 0, .int .i64 0, .slice none 0 0] 25
  have t1 := Ext.alloc (Below.refl w.heap.size w) (.cells #[.int .u32 0, .int .u32 0, .int .u32 0, .int .i64 0, .slice none 0 0] 25)
  go_enter Try.func18, Try.ntmps18
  go_wp2_with fail
  generalize w.alloc (.cells #[.int .u32 0, .int .u32 0, .int .u32 0, .int .i64 0, .slice none 0 0] 25) = W at *
  refine (HT.out _).mono ?_
  rintro e w1 ⟨rfl, rfl⟩
  have z1 := Z1.cell
  have f1 := Z1.free
  go_wp2
  have B5 : BoxOf _ w.heap.size #[.int .u32 0, .int .u32 0, .int .u32 0, .int .i64 0, .slice none 0 0] 25 := nbox5 Z1 (.int .u32 0) (.int .u32 0) (.int .u32 0) (.int .i64 0) (.slice none 0 0)
  have T5 := nbelow5 t1 (show w.heap.size ≤ w.heap.size by omega) (.int .u32 0) (.int .u32 0) (.int .u32 0) (.int .i64 0) (.slice none 0 0)
  exact bodyPost_ret (v := .tuple #[.agg #[.int .u32 0, .int .u32 0, .int .u32 0, .int .i64 0, .slice none 0 0], .int .i64 3]) (Eq.trans (results_row2 (P := Try.prog) (fn := Try.f18) (p := 2) (u := 3) (ty := 25) rfl _ _ w.heap.size 25 #[.int .u32 0, .int .u32 0, .int .u32 0, .int .i64 0, .slice none 0 0] (0, 0) _ rfl B5 Try.underlying25 rfl (by kernel_rfl)) rfl) rfl ⟨rfl, T5⟩

theorem wholeL_nz (bs : List UInt8) (h : bs.length = 0) : wholeL bs = zeros := by
  have : bs = [] := List.eq_nil_of_length_eq_zero h
  subst this; rfl
/-- the reference reads what the program reads -/
theorem rnread_yes {n : Nat} {bs : List UInt8} {id age sq st : Nat} {rs : List NRec} (h : NoteIs bs id age sq st rs) (A : Option Addr) (q : Nat) (w : World) (hb : Bs w A n bs) :
    Calls Try.prog 18 #[.slice A n q] w fun e w' => (∃ A' c', e = .returned (.tuple #[.agg #[.int .u32 (id : Int), .int .u32 (age : Int), .int .u32 (sq : Int), .int .i64 (st : Int), .slice A' rs.length c'], .int .i64 0]) ∧ Rs w' A' rs.length rs) ∧ Below w.heap.size w w' := by
  have hl := h.len
  have hn : n = 128 := by rw [← hb.1]; exact hl
  obtain ⟨_, _, _, _, h5, h6, _⟩ := h.bounds
  have hm : rs.length = min (takeN (wholeL bs) 14 1) 16 := by
    have h1 := congrArg List.length h.qrs
    rw [rdRs_len] at h1
    omega
  have hrs : rs = rdRs (wholeL bs) (min (takeN (wholeL bs) 14 1) 16) := by
    have h1 := h.qrs
    have h2 := congrArg List.length h1
    rw [rdRs_len] at h2
    rw [← hm, h2]; exact h1
  refine (rnread_core A n q bs (.inr hn) id age sq st _ _ rs h.qid h.qage h.qsq h.qst rfl rfl hrs false (.inr ⟨rfl, h.ok, by rw [h.bs, wholeL_full hl]⟩) w hb).mono fun e w' he => ?_
  obtain ⟨⟨h1, _⟩ | ⟨_, A', c', h1, h2⟩, h3⟩ := he
  · cases h1
  · rw [← hm] at h1 h2
    exact ⟨⟨A', c', h1, h2⟩, h3⟩
theorem rnread_no {n : Nat} {bs : List UInt8} (hn : n = 0 ∨ n = 128) (h : ∀ id age sq st rs, ¬ NoteIs bs id age sq st rs) (A : Option Addr) (q : Nat) (w : World) (hb : Bs w A n bs) :
    Calls Try.prog 18 #[.slice A n q] w fun e w' => e = .returned (.tuple #[.agg #[.int .u32 0, .int .u32 0, .int .u32 0, .int .i64 0, .slice none 0 0], .int .i64 90]) ∧ Below w.heap.size w w' := by
  have b1 : takeN (wholeL bs) 1 4 < 4294967296 := takeN_lt _ 1 4
  have b2 := rdRs_bounds (wholeL bs) (min (takeN (wholeL bs) 14 1) 16)
  refine (rnread_core A n q bs hn (takeN (wholeL bs) 1 4) (takeN (wholeL bs) 5 4) (takeN (wholeL bs) 9 4) (takeN (wholeL bs) 13 1) (takeN (wholeL bs) 14 1) (min (takeN (wholeL bs) 14 1) 16) _ rfl rfl rfl rfl rfl rfl rfl true (.inl ⟨rfl, ?_⟩) w hb).mono fun e w' he => ?_
  · cases hok : noteB (takeN (wholeL bs) 5 4) (takeN (wholeL bs) 9 4) ((takeN (wholeL bs) 13 1 : Nat) : Int) (rdRs (wholeL bs) (min (takeN (wholeL bs) 14 1) 16)) with
    | false => exact .inl rfl
    | true =>
      refine .inr ⟨rfl, fun heq => ?_⟩
      have hbl : bs.length = 128 := by
        rcases hn with h0 | h0
        · exfalso
          have hs := (note_len b1 b2 hok).2
          rw [heq, wholeL_nz bs (by rw [hb.1]; exact h0)] at hs
          have h1 := noteB_parts hok
          have h2 : takeN (wholeL bs) 14 1 = 0 := by rw [wholeL_nz bs (by rw [hb.1]; exact h0)]; decide +kernel
          rw [rdRs_len, h2] at h1
          omega
        · rw [hb.1]; exact h0
      have hi := note_own b1 b2 hok
      rw [heq, wholeL_full hbl] at hi
      exact h _ _ _ _ _ hi
  · obtain ⟨⟨_, h1⟩ | ⟨h1, _⟩, h3⟩ := he
    · exact ⟨h1, h3⟩
    · cases h1
end Go.Proofs.Ytggdfecgkhnkkaa
