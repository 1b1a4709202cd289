/- What this claim needs of my texts, merged (part 3). -/
import Derived.BigQuiet
import Derived.Lib.SliceRun
import Derived.Deep.RegionLaw
import Derived.Test.YtclbihcggjjgaaaZModelLast2
/- Layer 30 (model): the statements' own config, block and request; the program's New. -/
namespace Go.Proofs.Ytclbihcggjjgaaa
open Go Go.RowKit
set_option linter.unusedSimpArgs false
set_option linter.unusedVariables false

def cfgTwo : Cfg := ⟨0, 3, 1, 2, 12, 2⟩
theorem two_any (w : World) : Calls Try.prog 21 #[] w fun e w' => e = .returned cfgTwo.val ∧ Below w.heap.size w w' := by
  go_enter Try.func21, Try.ntmps21
  go_wp2
  exact bodyPost_ret (v := cfgTwo.val) (results_cell_row rfl _ _ w.heap.size 24 #[.int .u32 0, .int .i64 3, .int .i64 1, .int .i64 2, .int .i64 12, .int .i64 2] (0, 0) _ rfl (heap_alloc_new _ _) Try.underlying24 rfl (by kernel_rfl)) rfl ⟨rfl, Ext.alloc (Below.refl _ _) _⟩
/-- j bytes x, then noughts -/
def fillX (x : UInt8) (j : Nat) : List UInt8 := List.replicate j x ++ List.replicate (128 - j) 0
theorem fillX_none (x : UInt8) : fillX x 0 = zeros := rfl
theorem fillX_set (x : UInt8) (j : Nat) (hj : j < 128) : (fillX x j).set j x = fillX x (j + 1) := by
  unfold fillX
  apply List.ext_getElem
  · simp; omega
  · intro i h1 h2
    rw [List.getElem_set]
    by_cases h : j = i
    · subst h
      simp only [if_true]
      rw [List.getElem_append_left (by simp)]
      simp
    · simp only [h, if_false]
      by_cases h3 : i < j
      · rw [List.getElem_append_left (by simpa using h3), List.getElem_append_left (by simp; omega)]
        simp
      · rw [List.getElem_append_right (by simp; omega), List.getElem_append_right (by simp; omega)]
        simp
def fullL (x : UInt8) : List UInt8 := List.replicate 128 x
theorem fillX_all (x : UInt8) : fillX x 128 = fullL x := by simp [fillX, fullL]
theorem Own.rdin {w : World} {base g : Nat} {l : List UInt8} (h : Own w base g l) (hl : l.length = 128) : RdIn w (NewB base w) (.sl .byte) l [.slice (some ⟨g, 0, none⟩) 128 128] := by
  unfold Own at h
  exact (OwnL.of_bytes (bs := l) (by rw [hl]; exact h)).bytes_rdin (by rw [hl]; decide)
theorem fullL_len (x : UInt8) : (fullL x).length = 128 := by simp [fullL]

set_option maxRecDepth 100000 in
set_option maxHeartbeats 1000000 in
theorem full_any (x : UInt8) (w : World) : Calls Try.prog 26 #[.int .u8 (x.toNat : Int)] w fun e w' => (∃ g, e = .returned (.slice (some ⟨g, 0, none⟩) 128 128) ∧ RdIn w' (NewB w.heap.size w') (.sl .byte) (fullL x) [.slice (some ⟨g, 0, none⟩) 128 128]) ∧ Below w.heap.size w w' := by
  obtain ⟨i0, hi0, hz0, hz1, hz2⟩ := minfo_u8
  go_enter Try.func26, Try.ntmps26
  go_upto_region 1 with fail
  go_wp2_with (refine wpList_make_full w rfl (.const (.int .i64 128)) (.const (.int .i64 128)) 29 rfl w.heap.size 5 i0 (.int .u8 0) 1 Try.underlying29 hi0 hz0 hz1 .i64 .i64 128 128 128 rfl rfl rfl rfl (by rw [hz2]; omega) (by unfold maxLen; omega) (Nat.le_refl _) ?_; intro w2 own2 g2; rw [made_zeros] at own2; have b2 := Ext.grown (Below.refl _ _) g2 (by simp))
  have HO : Hid (Own w2 w.heap.size w.heap.size zeros) := Lib.hid own2
  clear own2 g2
  go_loopw [4] (fun i wr => ∃ j : Nat, j ≤ 128 ∧ i = .int .i64 j ∧ Own wr w.heap.size w.heap.size (fillX x j) ∧ Below w.heap.size w wr) (fun i _ => 128 - (intOf i).toNat)
  case atStart => exact ⟨0, Nat.zero_le _, rfl, by rw [fillX_none]; exact HO.out, b2⟩
  case round =>
    obtain ⟨j, hj, rfl, own, bw⟩ := hrel
    by_cases hlt : j < 128
    · have h2 := own.cell j hlt
      have h3 := World.ownsRow.frozenAt own j
      have hnx := own.set j x
      rw [fillX_set x j hlt] at hnx
      have HN := Lib.hid hnx
      clear hnx own
      generalize ((fillX x j).getD j 0).toNat = y at h2
      generalize hxx : x.toNat = xn at *
      go_wp2
      exact ⟨⟨j + 1, by omega, by go_num, by rw [← hxx]; exact HN.out, bw.setCell (Nat.le_refl _) _⟩, by simp [intOf]; omega⟩
    · have hj' : j = 128 := by omega
      have HF := Lib.hid own
      have hx1 : fillX x j = fullL x := by rw [hj']; exact fillX_all x
      have HX := Lib.hid hx1
      clear own hx1 hj'
      go_wp2
      go_ret
      exact ⟨⟨_, rfl, Own.rdin (by rw [← HX.out]; exact HF.out) (fullL_len x)⟩, bw⟩

set_option maxRecDepth 100000 in
set_option maxHeartbeats 1000000 in
theorem write_any (x : UInt8) (w : World) : Calls Try.prog 25 #[.int .u8 (x.toNat : Int)] w fun e w' => (∃ g, e = .returned (.agg #[.int .u8 2, .int .i64 0, .int .i64 1, .slice (some ⟨g, 0, none⟩) 128 128]) ∧ RdIn w' (NewB w.heap.size w') (.sl .byte) (fullL x) [.slice (some ⟨g, 0, none⟩) 128 128]) ∧ Below w.heap.size w w' := by
  have Z0 := BoxOf.new w #[.int .u8 0, .int .i64 0, .int .i64 0, .slice none 0 0] 58
  have t0 := Ext.alloc (Below.refl w.heap.size w) (.cells #[.int .u8 0, .int .i64 0, .int .i64 0, .slice none 0 0] 58)
  have HF := Lib.hid (full_any x (w.alloc (.cells #[.int .u8 0, .int .i64 0, .int .i64 0, .slice none 0 0] 58)))
  go_enter Try.func25, Try.ntmps25
  go_upto_region 1 with fail
  generalize w.alloc (.cells #[.int .u8 0, .int .i64 0, .int .i64 0, .slice none 0 0] 58) = W at *
  go_wp2_with fail
  refine HF.out.mono ?_
  rintro e w1 ⟨⟨g, rfl, r1⟩, b1⟩
  have Z1 := Z0.next b1
  have t1 := Ext.trans t0 b1
  have f1 := Z1.free
  have z1 := Z1.cell
  have HR := Lib.hid r1
  have lw := Z0.lt
  have hsz := t0.size
  clear r1 Z0 HF
  go_wp2
  have Z2 : BoxOf _ w.heap.size #[.int .u8 2, .int .i64 0, .int .i64 1, .slice (some ⟨g, 0, none⟩) 128 128] 58 := mbox_self (mbox_self (mbox_self (mbox_self Z1 0 (.int .u8 2)) 1 (.int .i64 0)) 2 (.int .i64 1)) 3 (.slice (some ⟨g, 0, none⟩) 128 128)
  have t2 := Below.setCell (p := ⟨w.heap.size, 3, none⟩) (Below.setCell (p := ⟨w.heap.size, 2, none⟩) (Below.setCell (p := ⟨w.heap.size, 1, none⟩) (Below.setCell (p := ⟨w.heap.size, 0, none⟩) t1 (Nat.le_refl _) (.int .u8 2)) (Nat.le_refl _) (.int .i64 0)) (Nat.le_refl _) (.int .i64 1)) (Nat.le_refl _) (.slice (some ⟨g, 0, none⟩) 128 128)
  have r2 := (((HR.out.setElse (k := w.heap.size) (fun b hb => by have := hb.1; omega) 0 (.int .u8 2)).setElse (k := w.heap.size) (fun b hb => by have := hb.1; omega) 1 (.int .i64 0)).setElse (k := w.heap.size) (fun b hb => by have := hb.1; omega) 2 (.int .i64 1)).setElse (k := w.heap.size) (fun b hb => by have := hb.1; omega) 3 (.slice (some ⟨g, 0, none⟩) 128 128)
  refine bodyPost_ret (v := .agg #[.int .u8 2, .int .i64 0, .int .i64 1, .slice (some ⟨g, 0, none⟩) 128 128]) (results_cell_row rfl _ _ w.heap.size 58 #[.int .u8 2, .int .i64 0, .int .i64 1, .slice (some ⟨g, 0, none⟩) 128 128] (0, 0) _ rfl Z2 Try.underlying58 rfl (by kernel_rfl)) rfl ⟨⟨g, rfl, RdIn.mono (S' := NewB w.heap.size ((((w1.setCell ⟨w.heap.size, 0, none⟩ (.int .u8 2)).setCell ⟨w.heap.size, 1, none⟩ (.int .i64 0)).setCell ⟨w.heap.size, 2, none⟩ (.int .i64 1)).setCell ⟨w.heap.size, 3, none⟩ (.slice (some ⟨g, 0, none⟩) 128 128))) (fun b hb => ⟨by have := hb.1; omega, by simp only [msize]; exact hb.2.1, (((hb.2.2.set _ _).set _ _).set _ _).set _ _⟩) r2⟩, t2⟩

theorem wp_make_full {P : Program} (w : World) {o : Oper} {a : Act} {K : Act → World → Prop} {Q : Exit → Act → World → Prop}
    (l c : Operand) (t : TypeId) (hop : o.op = Op.makeSlice t l c)
    (base : Nat) (e : TypeId) (i : TypeInfo) (z : Value) (size : Nat) (h1 : P.underlying t = some (.slice e)) (h2 : P.info? e = some i) (h3 : i.zero = some z) (h4 : i.size = size)
    (kl kc : IntKind) (L C : Int) (n : Nat) (hl : a.eval l = .int kl L) (hc : a.eval c = .int kc C) (hL : L = (n : Int)) (hC : C = (n : Int)) (b2 : i.bytes * n ≤ 281474976710656) (b3 : n ≤ maxLen) (b4 : base ≤ w.heap.size)
    (hK : ∀ w', w'.ownsRow base e size (.slice (some ⟨w.heap.size, 0, none⟩) n n) n (madeCells z.cells (n * size)).toList → w.grownBy w' none → K (a.put o.dst (.slice (some ⟨w.heap.size, 0, none⟩) n n)) w') :
    o.wp P a w K Q := by
  obtain ⟨w', hrun, r1, r2⟩ := run_make_full (P := P) w base t e i z size h1 h2 h3 h4 kl kc n b2 b3 b4
  subst hL
  subst hC
  unfold Oper.wp
  simp [execOp, hop, hl, hc, hrun, Result.andThen]
  exact hK w' r1 r2
def nulls (n : Nat) : List (List (List UInt8)) := List.replicate n [zeros]
theorem nulls_step (n : Nat) : nulls (n + 1) = nulls n ++ [[zeros]] := List.replicate_succ'
theorem nulls_len (n : Nat) : (nulls n).length = n := List.length_replicate
/-- what New answers -/
def NewRel (x : Cfg) (v : Int) (ys : List (List (List UInt8))) : Prop := (¬ x.Ok ∧ v = 8 ∧ ys = []) ∨ (x.Ok ∧ v = 0 ∧ ys = nulls (x.c * x.r * (x.m - 1)).toNat)
theorem NewRel.one {x : Cfg} {v v' : Int} {ys zs : List (List (List UInt8))} (h : NewRel x v ys) (h' : NewRel x v' zs) : v = v' ∧ ys = zs := by
  rcases h with ⟨h1, rfl, rfl⟩ | ⟨h1, rfl, rfl⟩ <;> rcases h' with ⟨k1, rfl, rfl⟩ | ⟨k1, rfl, rfl⟩ <;> first | exact ⟨rfl, rfl⟩ | exact absurd h1 k1 | exact absurd k1 h1
def NewIs (base : Nat) (x : Cfg) (e : Ending) (w : World) : Prop :=
  ∃ (v : Int) (ys : List (List (List UInt8))) (A' : Option Addr) (c' : Nat), e = .returned (.tuple #[.agg #[.slice A' ys.length c', .slice none 0 0], .int .i64 v]) ∧ NewRel x v ys ∧ RdIn w (NewB base w) (.sl (.sl (.sl .byte))) ys [.slice A' ys.length c']

set_option maxRecDepth 100000 in
set_option maxHeartbeats 4000000 in
theorem snew_any (x : Cfg) (w : World) : Calls Try.prog 29 #[x.val] w fun e w' => NewIs w.heap.size x e w' ∧ Below w.heap.size w w' := by
  obtain ⟨il, hil, hl0, hl1, hl2⟩ := minfo_lists
  obtain ⟨iu, hu, hu0, hu1, hu2⟩ := minfo_u8
  by_cases hx : x.Ok
  · have HB := Lib.hid (blocks_ok x hx)
    have HX := Lib.hid hx
    have hcr := Cfg.crm hx
    obtain ⟨N, hN⟩ : ∃ n : Nat, x.c * x.r * (x.m - 1) = (n : Int) := ⟨(x.c * x.r * (x.m - 1)).toNat, by omega⟩
    have hN9 : N ≤ 1000 := by omega
    have HNN : Hid ((x.c * x.r * (x.m - 1)).toNat = N) := by show _ = _; omega
    rw [hN] at HB
    clear hcr hN hx
    obtain ⟨id, m, c, r, l, h⟩ := x
    unfold Cfg.val at *
    dsimp only at *
    have C0 := BoxOf.alloc (BoxOf.new w #[.int .u32 (id : Int), .int .i64 m, .int .i64 c, .int .i64 r, .int .i64 l, .int .i64 h] 24) (.cells #[.slice none 0 0, .slice none 0 0] 28)
    have Z0 := BoxOf.new' (w.alloc (.cells #[.int .u32 (id : Int), .int .i64 m, .int .i64 c, .int .i64 r, .int .i64 l, .int .i64 h] 24)) (w.heap.size + 1) #[.slice none 0 0, .slice none 0 0] 28 (by simp)
    have t0 := Ext.alloc (Ext.alloc (Below.refl w.heap.size w) (.cells #[.int .u32 (id : Int), .int .i64 m, .int .i64 c, .int .i64 r, .int .i64 l, .int .i64 h] 24)) (.cells #[.slice none 0 0, .slice none 0 0] 28)
    go_enter Try.func29, Try.ntmps29
    go_upto_region 1 with fail
    generalize (w.alloc (.cells #[.int .u32 (id : Int), .int .i64 m, .int .i64 c, .int .i64 r, .int .i64 l, .int .i64 h] 24)).alloc (.cells #[.slice none 0 0, .slice none 0 0] 28) = W at *
    have x0 := C0.cell
    go_wp2_with fail
    refine (HB.out _).mono ?_
    rintro e w1 ⟨rfl, b1⟩
    have C1 := C0.next b1
    have Z1 := Z0.next b1
    have t1 := Ext.trans t0 b1
    obtain ⟨base, hbase⟩ : ∃ z : Nat, z = w.heap.size + 2 := ⟨_, rfl⟩
    have hb2 : base ≤ w1.heap.size := by have := Z1.lt; omega
    have HBS := Lib.hid hbase
    have HB2 := Lib.hid hb2
    clear x0 C0 Z0 t0 b1 hbase hb2
    go_wp2
    go_loopw [15] (fun i wr => ∃ (j : Nat) (v : Value), j ≤ N ∧ i = .int .i64 j ∧ Below w.heap.size w wr ∧ BoxOf wr w.heap.size #[.int .u32 (id : Int), .int .i64 m, .int .i64 c, .int .i64 r, .int .i64 l, .int .i64 h] 24 ∧ BoxOf wr (w.heap.size + 1) #[v, .slice none 0 0] 28 ∧ OwnL wr base 30 (.sl (.sl .byte)) v (nulls j) ∧ Hid (base ≤ wr.heap.size)) (fun i _ => N - (intOf i).toNat)
    case atStart => exact ⟨0, .slice none 0 0, by omega, rfl, t1, C1, Z1, OwnL.nil _ _ _ _, HB2⟩
    case round =>
      obtain ⟨j, v, hj, rfl, t3, P4, Z4, O4, HB4⟩ := hrel
      clear t1 C1 Z1
      by_cases hlt : j < N
      · have HWJ := next_wrap (show N ≤ maxLen by unfold maxLen; omega) hlt
        have HLJ := Lib.hid hlt
        have HBY : Hid ((nulls j).length + 1 ≤ maxLen ∧ ((nulls j).length + 1) * 24 ≤ 140737488355328) := by
          show _ ∧ _
          rw [nulls_len]
          unfold maxLen
          omega
        have HTL : Hid (∀ (A : Option Addr) (c : Nat), Value.slice A ((nulls j) ++ [[zeros]]).length c = Value.slice A (j + 1) c) := fun A c => by
          rw [List.length_append, nulls_len]
          rfl
        go_upto_region 6 with fail
        have P5 := P4.drew
        have Z5 := Z4.drew
        have O5 := O4.next (Ext.drew (Below.refl wr.heap.size wr))
        have t5 := Ext.drew t3
        have n5 : base ≤ wr.drew.heap.size := HB4.out
        refine wp_region_held_drew (S := fun w' => BoxOf w' w.heap.size #[.int .u32 (id : Int), .int .i64 m, .int .i64 c, .int .i64 r, .int .i64 l, .int .i64 h] 24) (by kernel_rfl) P5 (fun hS => ?_)
        clear P4 Z4 O4 t3
        generalize wr.drew = wd at *
        refine wpAnyH_take (i := 0) (oi := _) (v := ?_) rfl (by kernel_rfl) (by kernel_rfl) (by kernel_rfl) (fun _ _ _ h => h) (Or.inl ⟨by rfl, ?_⟩) hS ?_
        rotate_left
        · (intro w hSw; (try dsimp only at hSw); go_simp; (try with_reducible rfl))
        rotate_left
        simp only [Act.put, List.getElem_toArray, List.getElem_cons_zero, List.getElem_cons_succ, List.setIfInBounds_toArray, List.set_cons_zero, List.set_cons_succ]
        refine wpAnyH_ready (rs := [1, 2]) (by kernel_rfl) (by simp) ?_
        refine AllReadyH.cons rfl (fun K hK => ?_) (AllReadyH.cons rfl (fun K hK => ?_) AllReadyH.nil)
        · rw [if_pos (by rfl)]
          have yQ := Z5.cell
          go_simp
          refine hK.out _ _ P5 (fun hS' => ?_)
          clear yQ hK K hS
          have hS := hS'
          clear hS'
          try simp only [Act.put, List.getElem_toArray, List.getElem_cons_zero, List.getElem_cons_succ, List.setIfInBounds_toArray, List.set_cons_zero, List.set_cons_succ]
          refine wpAnyH_ready (rs := [2]) (by kernel_rfl) (by simp) ?_
          refine AllReadyH.cons rfl (fun K hK => ?_) AllReadyH.nil
          rw [if_pos (by rfl)]
          refine wp_make_full wd (.const (.int .i64 128)) (.const (.int .i64 128)) 29 rfl wd.heap.size 5 iu (.int .u8 0) 1 Try.underlying29 hu hu0 hu1 .i64 .i64 128 128 128 rfl rfl rfl rfl (by rw [hu2]; omega) (by unfold maxLen; omega) (Nat.le_refl _) ?_
          intro v5 own5 g5
          rw [made_zeros] at own5
          have bb := Ext.grown (Below.refl _ _) g5 (by simp)
          have r6 := Own.rdin own5 (show zeros.length = 128 from rfl)
          have F6 := own_apart r6 (OwnL.lt O5) n5
          obtain ⟨g6, hg6⟩ : ∃ z : Nat, z = wd.heap.size := ⟨_, rfl⟩
          rw [← hg6] at F6
          clear r6 own5 g5
          have P9 := P5.next bb
          have Z9 := Z5.next bb
          have O9 := O5.next bb
          have t9 := Ext.trans t5 bb
          have n9 := Nat.le_trans n5 bb.size
          refine hK.out _ _ P9 (fun hS' => ?_)
          clear P5 Z5 O5 t5 n5 hK K hS
          have P5 := P9
          have Z5 := Z9
          have O5 := O9
          have t5 := t9
          have n5 := n9
          have hS := hS'
          clear hS' P9 Z9 O9 t9 n9
          try simp only [Act.put, List.getElem_toArray, List.getElem_cons_zero, List.getElem_cons_succ, List.setIfInBounds_toArray, List.set_cons_zero, List.set_cons_succ]
          clear bb
          rw [← hg6]
          clear hg6
          refine wpAnyH_ready (rs := [3]) (by kernel_rfl) (by simp) ?_
          refine AllReadyH.cons rfl (fun K hK => ?_) AllReadyH.nil
          rw [if_pos (by rfl)]
          go_simp
          have bb := Ext.alloc (Below.refl v5.heap.size v5) (.cells #[.slice (some ⟨g6, 0, none⟩) 128 128] 29)
          have F7 := one_list (OwnL.lt O5) n5 F6 29
          clear F6
          obtain ⟨g7, hg7⟩ : ∃ z : Nat, z = v5.heap.size := ⟨_, rfl⟩
          rw [← hg7] at F7
          have P9 := P5.next bb
          have Z9 := Z5.next bb
          have O9 := O5.next bb
          have t9 := Ext.trans t5 bb
          have n9 := Nat.le_trans n5 bb.size
          refine hK.out _ _ P9 (fun hS' => ?_)
          clear P5 Z5 O5 t5 n5 hK K hS
          have P5 := P9
          have Z5 := Z9
          have O5 := O9
          have t5 := t9
          have n5 := n9
          have hS := hS'
          clear hS' P9 Z9 O9 t9 n9
          try simp only [Act.put, List.getElem_toArray, List.getElem_cons_zero, List.getElem_cons_succ, List.setIfInBounds_toArray, List.set_cons_zero, List.set_cons_succ]
          clear bb
          rw [← hg7]
          clear hg7
          generalize v5.alloc (.cells #[.slice (some ⟨g6, 0, none⟩) 128 128] 29) = v7 at *
          refine wpAnyH_ready (rs := [4]) (by kernel_rfl) (by simp) ?_
          refine AllReadyH.cons rfl (fun K hK => ?_) AllReadyH.nil
          rw [if_pos (by rfl)]
          go_simp
          have bb := Ext.alloc (Below.refl v7.heap.size v7) (.cells #[.slice (some ⟨g7, 0, none⟩) 1 1] 30)
          have rd8 := rd_row v7 #[.slice (some ⟨g7, 0, none⟩) 1 1] 30
          have F8 := (F7.below bb).mono (fun b hb => Fresh.next hb bb)
          clear F7
          obtain ⟨g8, hg8⟩ : ∃ z : Nat, z = v7.heap.size := ⟨_, rfl⟩
          rw [← hg8] at rd8
          have P9 := P5.next bb
          have Z9 := Z5.next bb
          have O9 := O5.next bb
          have t9 := Ext.trans t5 bb
          have n9 := Nat.le_trans n5 bb.size
          refine hK.out _ _ P9 (fun hS' => ?_)
          clear P5 Z5 O5 t5 n5 hK K hS
          have P5 := P9
          have Z5 := Z9
          have O5 := O9
          have t5 := t9
          have n5 := n9
          have hS := hS'
          clear hS' P9 Z9 O9 t9 n9
          try simp only [Act.put, List.getElem_toArray, List.getElem_cons_zero, List.getElem_cons_succ, List.setIfInBounds_toArray, List.set_cons_zero, List.set_cons_succ]
          clear bb
          rw [← hg8]
          clear hg8
          generalize v7.alloc (.cells #[.slice (some ⟨g7, 0, none⟩) 1 1] 30) = v8 at *
          refine wpAnyH_ready (rs := [5]) (by kernel_rfl) (by simp) ?_
          refine AllReadyH.cons rfl (fun K hK => ?_) AllReadyH.nil
          rw [if_pos (by rfl)]
          refine wp_push (.tmp 18) (.tmp 21) 25 rfl base 30 il _ 24 (.sl (.sl .byte)) Try.underlying25 hil hl0 hl1 hl2 rfl (by decide) v (nulls j) rfl O5 (some ⟨g8, 0, none⟩) 1 _ rfl rd8 _ F8 HBY.out.1 HBY.out.2 n5 ?_
          intro u9 w9 O9 gr9 k9
          have hb3 := HBS.out
          have P9 := P5.grown gr9 (fun e => by have := k9 _ e; omega)
          have Z9 := Z5.grown gr9 (fun e => by have := k9 _ e; omega)
          have t9 := Below.grown t5 gr9 t5.size (fun r e => by have := k9 r e; omega)
          have n9 := Nat.le_trans n5 gr9.size
          refine hK.out _ _ P9 (fun hS' => ?_)
          clear P5 Z5 O5 t5 n5 k9 gr9 F8 rd8 hK K hS
          have hS := hS'
          clear hS'
          obtain ⟨A10, c10, e10⟩ := OwnL.slice O9
          have e11 := e10.trans (HTL.out A10 c10)
          clear e10
          subst e11
          try simp only [Act.put, List.getElem_toArray, List.getElem_cons_zero, List.getElem_cons_succ, List.setIfInBounds_toArray, List.set_cons_zero, List.set_cons_succ]
          refine wpAnyH_take (i := 6) (oi := _) (v := ?_) rfl (by kernel_rfl) (by kernel_rfl) (by kernel_rfl) (fun _ _ _ h => h) (Or.inl ⟨by rfl, ?_⟩) hS ?_
          rotate_left
          · (intro w hSw; (try dsimp only at hSw); go_simp; (try with_reducible rfl))
          rotate_left
          simp only [Act.put, List.getElem_toArray, List.getElem_cons_zero, List.getElem_cons_succ, List.setIfInBounds_toArray, List.set_cons_zero, List.set_cons_succ]
          refine wpAnyH_ready (rs := [7]) (by kernel_rfl) (by simp) ?_
          refine AllReadyH.cons rfl (fun K hK => ?_) AllReadyH.nil
          rw [if_pos (by rfl)]
          have fQ := Z9.free
          have yQ := Z9.cell
          go_simp
          clear fQ yQ
          have Z10 : BoxOf _ (w.heap.size + 1) #[.slice A10 (j + 1) c10, .slice none 0 0] 28 := mbox_self Z9 0 (.slice A10 (j + 1) c10)
          have P10 := mbox_else P9 (show w.heap.size ≠ w.heap.size + 1 by omega) 0 (.slice A10 (j + 1) c10)
          have O10 := OwnL.setElse (k := w.heap.size + 1) (OwnL.cast (nulls_step j).symm O9) (by omega) 0 (.slice A10 (j + 1) c10)
          have t10 := Below.setCell (p := ⟨w.heap.size + 1, 0, none⟩) t9 (show w.heap.size ≤ w.heap.size + 1 by omega) (.slice A10 (j + 1) c10)
          refine hK.out _ _ P10 (fun hS' => ?_)
          clear hK K hS hS' Z9 P9 O9 t9
          try simp only [Act.put, List.getElem_toArray, List.getElem_cons_zero, List.getElem_cons_succ, List.setIfInBounds_toArray, List.set_cons_zero, List.set_cons_succ]
          refine wpAnyH_done (by kernel_rfl) ?_ _
          have HN9 : Hid (base ≤ w9.heap.size) := n9
          have LJ := HLJ.out
          clear n9 hb3
          go_wp2
          go_roundw
          case rel => exact ⟨j + 1, _, LJ, by first | exact round_same HWJ | go_num, t10, P10, Z10, O10, (show Hid (base ≤ _) from by show base ≤ _; rw [msize]; exact HN9.out)⟩
          case measure => first | exact round_less HWJ LJ | (have h := LJ; simp [intOf]; omega)
        · rw [if_pos (by rfl)]
          refine wp_make_full wd (.const (.int .i64 128)) (.const (.int .i64 128)) 29 rfl wd.heap.size 5 iu (.int .u8 0) 1 Try.underlying29 hu hu0 hu1 .i64 .i64 128 128 128 rfl rfl rfl rfl (by rw [hu2]; omega) (by unfold maxLen; omega) (Nat.le_refl _) ?_
          intro v5 own5 g5
          rw [made_zeros] at own5
          have bb := Ext.grown (Below.refl _ _) g5 (by simp)
          have r6 := Own.rdin own5 (show zeros.length = 128 from rfl)
          have F6 := own_apart r6 (OwnL.lt O5) n5
          obtain ⟨g6, hg6⟩ : ∃ z : Nat, z = wd.heap.size := ⟨_, rfl⟩
          rw [← hg6] at F6
          clear r6 own5 g5
          have P9 := P5.next bb
          have Z9 := Z5.next bb
          have O9 := O5.next bb
          have t9 := Ext.trans t5 bb
          have n9 := Nat.le_trans n5 bb.size
          refine hK.out _ _ P9 (fun hS' => ?_)
          clear P5 Z5 O5 t5 n5 hK K hS
          have P5 := P9
          have Z5 := Z9
          have O5 := O9
          have t5 := t9
          have n5 := n9
          have hS := hS'
          clear hS' P9 Z9 O9 t9 n9
          try simp only [Act.put, List.getElem_toArray, List.getElem_cons_zero, List.getElem_cons_succ, List.setIfInBounds_toArray, List.set_cons_zero, List.set_cons_succ]
          clear bb
          rw [← hg6]
          clear hg6
          refine wpAnyH_ready (rs := [1, 3]) (by kernel_rfl) (by simp) ?_
          refine AllReadyH.cons rfl (fun K hK => ?_) (AllReadyH.cons rfl (fun K hK => ?_) AllReadyH.nil)
          · rw [if_pos (by rfl)]
            have yQ := Z5.cell
            go_simp
            refine hK.out _ _ P5 (fun hS' => ?_)
            clear yQ hK K hS
            have hS := hS'
            clear hS'
            try simp only [Act.put, List.getElem_toArray, List.getElem_cons_zero, List.getElem_cons_succ, List.setIfInBounds_toArray, List.set_cons_zero, List.set_cons_succ]
            refine wpAnyH_ready (rs := [3]) (by kernel_rfl) (by simp) ?_
            refine AllReadyH.cons rfl (fun K hK => ?_) AllReadyH.nil
            rw [if_pos (by rfl)]
            go_simp
            have bb := Ext.alloc (Below.refl v5.heap.size v5) (.cells #[.slice (some ⟨g6, 0, none⟩) 128 128] 29)
            have F7 := one_list (OwnL.lt O5) n5 F6 29
            clear F6
            obtain ⟨g7, hg7⟩ : ∃ z : Nat, z = v5.heap.size := ⟨_, rfl⟩
            rw [← hg7] at F7
            have P9 := P5.next bb
            have Z9 := Z5.next bb
            have O9 := O5.next bb
            have t9 := Ext.trans t5 bb
            have n9 := Nat.le_trans n5 bb.size
            refine hK.out _ _ P9 (fun hS' => ?_)
            clear P5 Z5 O5 t5 n5 hK K hS
            have P5 := P9
            have Z5 := Z9
            have O5 := O9
            have t5 := t9
            have n5 := n9
            have hS := hS'
            clear hS' P9 Z9 O9 t9 n9
            try simp only [Act.put, List.getElem_toArray, List.getElem_cons_zero, List.getElem_cons_succ, List.setIfInBounds_toArray, List.set_cons_zero, List.set_cons_succ]
            clear bb
            rw [← hg7]
            clear hg7
            generalize v5.alloc (.cells #[.slice (some ⟨g6, 0, none⟩) 128 128] 29) = v7 at *
            refine wpAnyH_ready (rs := [4]) (by kernel_rfl) (by simp) ?_
            refine AllReadyH.cons rfl (fun K hK => ?_) AllReadyH.nil
            rw [if_pos (by rfl)]
            go_simp
            have bb := Ext.alloc (Below.refl v7.heap.size v7) (.cells #[.slice (some ⟨g7, 0, none⟩) 1 1] 30)
            have rd8 := rd_row v7 #[.slice (some ⟨g7, 0, none⟩) 1 1] 30
            have F8 := (F7.below bb).mono (fun b hb => Fresh.next hb bb)
            clear F7
            obtain ⟨g8, hg8⟩ : ∃ z : Nat, z = v7.heap.size := ⟨_, rfl⟩
            rw [← hg8] at rd8
            have P9 := P5.next bb
            have Z9 := Z5.next bb
            have O9 := O5.next bb
            have t9 := Ext.trans t5 bb
            have n9 := Nat.le_trans n5 bb.size
            refine hK.out _ _ P9 (fun hS' => ?_)
            clear P5 Z5 O5 t5 n5 hK K hS
            have P5 := P9
            have Z5 := Z9
            have O5 := O9
            have t5 := t9
            have n5 := n9
            have hS := hS'
            clear hS' P9 Z9 O9 t9 n9
            try simp only [Act.put, List.getElem_toArray, List.getElem_cons_zero, List.getElem_cons_succ, List.setIfInBounds_toArray, List.set_cons_zero, List.set_cons_succ]
            clear bb
            rw [← hg8]
            clear hg8
            generalize v7.alloc (.cells #[.slice (some ⟨g7, 0, none⟩) 1 1] 30) = v8 at *
            refine wpAnyH_ready (rs := [5]) (by kernel_rfl) (by simp) ?_
            refine AllReadyH.cons rfl (fun K hK => ?_) AllReadyH.nil
            rw [if_pos (by rfl)]
            refine wp_push (.tmp 18) (.tmp 21) 25 rfl base 30 il _ 24 (.sl (.sl .byte)) Try.underlying25 hil hl0 hl1 hl2 rfl (by decide) v (nulls j) rfl O5 (some ⟨g8, 0, none⟩) 1 _ rfl rd8 _ F8 HBY.out.1 HBY.out.2 n5 ?_
            intro u9 w9 O9 gr9 k9
            have hb3 := HBS.out
            have P9 := P5.grown gr9 (fun e => by have := k9 _ e; omega)
            have Z9 := Z5.grown gr9 (fun e => by have := k9 _ e; omega)
            have t9 := Below.grown t5 gr9 t5.size (fun r e => by have := k9 r e; omega)
            have n9 := Nat.le_trans n5 gr9.size
            refine hK.out _ _ P9 (fun hS' => ?_)
            clear P5 Z5 O5 t5 n5 k9 gr9 F8 rd8 hK K hS
            have hS := hS'
            clear hS'
            obtain ⟨A10, c10, e10⟩ := OwnL.slice O9
            have e11 := e10.trans (HTL.out A10 c10)
            clear e10
            subst e11
            try simp only [Act.put, List.getElem_toArray, List.getElem_cons_zero, List.getElem_cons_succ, List.setIfInBounds_toArray, List.set_cons_zero, List.set_cons_succ]
            refine wpAnyH_take (i := 6) (oi := _) (v := ?_) rfl (by kernel_rfl) (by kernel_rfl) (by kernel_rfl) (fun _ _ _ h => h) (Or.inl ⟨by rfl, ?_⟩) hS ?_
            rotate_left
            · (intro w hSw; (try dsimp only at hSw); go_simp; (try with_reducible rfl))
            rotate_left
            simp only [Act.put, List.getElem_toArray, List.getElem_cons_zero, List.getElem_cons_succ, List.setIfInBounds_toArray, List.set_cons_zero, List.set_cons_succ]
            refine wpAnyH_ready (rs := [7]) (by kernel_rfl) (by simp) ?_
            refine AllReadyH.cons rfl (fun K hK => ?_) AllReadyH.nil
            rw [if_pos (by rfl)]
            have fQ := Z9.free
            have yQ := Z9.cell
            go_simp
            clear fQ yQ
            have Z10 : BoxOf _ (w.heap.size + 1) #[.slice A10 (j + 1) c10, .slice none 0 0] 28 := mbox_self Z9 0 (.slice A10 (j + 1) c10)
            have P10 := mbox_else P9 (show w.heap.size ≠ w.heap.size + 1 by omega) 0 (.slice A10 (j + 1) c10)
            have O10 := OwnL.setElse (k := w.heap.size + 1) (OwnL.cast (nulls_step j).symm O9) (by omega) 0 (.slice A10 (j + 1) c10)
            have t10 := Below.setCell (p := ⟨w.heap.size + 1, 0, none⟩) t9 (show w.heap.size ≤ w.heap.size + 1 by omega) (.slice A10 (j + 1) c10)
            refine hK.out _ _ P10 (fun hS' => ?_)
            clear hK K hS hS' Z9 P9 O9 t9
            try simp only [Act.put, List.getElem_toArray, List.getElem_cons_zero, List.getElem_cons_succ, List.setIfInBounds_toArray, List.set_cons_zero, List.set_cons_succ]
            refine wpAnyH_done (by kernel_rfl) ?_ _
            have HN9 : Hid (base ≤ w9.heap.size) := n9
            have LJ := HLJ.out
            clear n9 hb3
            go_wp2
            go_roundw
            case rel => exact ⟨j + 1, _, LJ, by first | exact round_same HWJ | go_num, t10, P10, Z10, O10, (show Hid (base ≤ _) from by show base ≤ _; rw [msize]; exact HN9.out)⟩
            case measure => first | exact round_less HWJ LJ | (have h := LJ; simp [intOf]; omega)
          · rw [if_pos (by rfl)]
            go_simp
            have bb := Ext.alloc (Below.refl v5.heap.size v5) (.cells #[.slice (some ⟨g6, 0, none⟩) 128 128] 29)
            have F7 := one_list (OwnL.lt O5) n5 F6 29
            clear F6
            obtain ⟨g7, hg7⟩ : ∃ z : Nat, z = v5.heap.size := ⟨_, rfl⟩
            rw [← hg7] at F7
            have P9 := P5.next bb
            have Z9 := Z5.next bb
            have O9 := O5.next bb
            have t9 := Ext.trans t5 bb
            have n9 := Nat.le_trans n5 bb.size
            refine hK.out _ _ P9 (fun hS' => ?_)
            clear P5 Z5 O5 t5 n5 hK K hS
            have P5 := P9
            have Z5 := Z9
            have O5 := O9
            have t5 := t9
            have n5 := n9
            have hS := hS'
            clear hS' P9 Z9 O9 t9 n9
            try simp only [Act.put, List.getElem_toArray, List.getElem_cons_zero, List.getElem_cons_succ, List.setIfInBounds_toArray, List.set_cons_zero, List.set_cons_succ]
            clear bb
            rw [← hg7]
            clear hg7
            generalize v5.alloc (.cells #[.slice (some ⟨g6, 0, none⟩) 128 128] 29) = v7 at *
            refine wpAnyH_ready (rs := [1, 4]) (by kernel_rfl) (by simp) ?_
            refine AllReadyH.cons rfl (fun K hK => ?_) (AllReadyH.cons rfl (fun K hK => ?_) AllReadyH.nil)
            · rw [if_pos (by rfl)]
              have yQ := Z5.cell
              go_simp
              refine hK.out _ _ P5 (fun hS' => ?_)
              clear yQ hK K hS
              have hS := hS'
              clear hS'
              try simp only [Act.put, List.getElem_toArray, List.getElem_cons_zero, List.getElem_cons_succ, List.setIfInBounds_toArray, List.set_cons_zero, List.set_cons_succ]
              refine wpAnyH_ready (rs := [4]) (by kernel_rfl) (by simp) ?_
              refine AllReadyH.cons rfl (fun K hK => ?_) AllReadyH.nil
              rw [if_pos (by rfl)]
              go_simp
              have bb := Ext.alloc (Below.refl v7.heap.size v7) (.cells #[.slice (some ⟨g7, 0, none⟩) 1 1] 30)
              have rd8 := rd_row v7 #[.slice (some ⟨g7, 0, none⟩) 1 1] 30
              have F8 := (F7.below bb).mono (fun b hb => Fresh.next hb bb)
              clear F7
              obtain ⟨g8, hg8⟩ : ∃ z : Nat, z = v7.heap.size := ⟨_, rfl⟩
              rw [← hg8] at rd8
              have P9 := P5.next bb
              have Z9 := Z5.next bb
              have O9 := O5.next bb
              have t9 := Ext.trans t5 bb
              have n9 := Nat.le_trans n5 bb.size
              refine hK.out _ _ P9 (fun hS' => ?_)
              clear P5 Z5 O5 t5 n5 hK K hS
              have P5 := P9
              have Z5 := Z9
              have O5 := O9
              have t5 := t9
              have n5 := n9
              have hS := hS'
              clear hS' P9 Z9 O9 t9 n9
              try simp only [Act.put, List.getElem_toArray, List.getElem_cons_zero, List.getElem_cons_succ, List.setIfInBounds_toArray, List.set_cons_zero, List.set_cons_succ]
              clear bb
              rw [← hg8]
              clear hg8
              generalize v7.alloc (.cells #[.slice (some ⟨g7, 0, none⟩) 1 1] 30) = v8 at *
              refine wpAnyH_ready (rs := [5]) (by kernel_rfl) (by simp) ?_
              refine AllReadyH.cons rfl (fun K hK => ?_) AllReadyH.nil
              rw [if_pos (by rfl)]
              refine wp_push (.tmp 18) (.tmp 21) 25 rfl base 30 il _ 24 (.sl (.sl .byte)) Try.underlying25 hil hl0 hl1 hl2 rfl (by decide) v (nulls j) rfl O5 (some ⟨g8, 0, none⟩) 1 _ rfl rd8 _ F8 HBY.out.1 HBY.out.2 n5 ?_
              intro u9 w9 O9 gr9 k9
              have hb3 := HBS.out
              have P9 := P5.grown gr9 (fun e => by have := k9 _ e; omega)
              have Z9 := Z5.grown gr9 (fun e => by have := k9 _ e; omega)
              have t9 := Below.grown t5 gr9 t5.size (fun r e => by have := k9 r e; omega)
              have n9 := Nat.le_trans n5 gr9.size
              refine hK.out _ _ P9 (fun hS' => ?_)
              clear P5 Z5 O5 t5 n5 k9 gr9 F8 rd8 hK K hS
              have hS := hS'
              clear hS'
              obtain ⟨A10, c10, e10⟩ := OwnL.slice O9
              have e11 := e10.trans (HTL.out A10 c10)
              clear e10
              subst e11
              try simp only [Act.put, List.getElem_toArray, List.getElem_cons_zero, List.getElem_cons_succ, List.setIfInBounds_toArray, List.set_cons_zero, List.set_cons_succ]
              refine wpAnyH_take (i := 6) (oi := _) (v := ?_) rfl (by kernel_rfl) (by kernel_rfl) (by kernel_rfl) (fun _ _ _ h => h) (Or.inl ⟨by rfl, ?_⟩) hS ?_
              rotate_left
              · (intro w hSw; (try dsimp only at hSw); go_simp; (try with_reducible rfl))
              rotate_left
              simp only [Act.put, List.getElem_toArray, List.getElem_cons_zero, List.getElem_cons_succ, List.setIfInBounds_toArray, List.set_cons_zero, List.set_cons_succ]
              refine wpAnyH_ready (rs := [7]) (by kernel_rfl) (by simp) ?_
              refine AllReadyH.cons rfl (fun K hK => ?_) AllReadyH.nil
              rw [if_pos (by rfl)]
              have fQ := Z9.free
              have yQ := Z9.cell
              go_simp
              clear fQ yQ
              have Z10 : BoxOf _ (w.heap.size + 1) #[.slice A10 (j + 1) c10, .slice none 0 0] 28 := mbox_self Z9 0 (.slice A10 (j + 1) c10)
              have P10 := mbox_else P9 (show w.heap.size ≠ w.heap.size + 1 by omega) 0 (.slice A10 (j + 1) c10)
              have O10 := OwnL.setElse (k := w.heap.size + 1) (OwnL.cast (nulls_step j).symm O9) (by omega) 0 (.slice A10 (j + 1) c10)
              have t10 := Below.setCell (p := ⟨w.heap.size + 1, 0, none⟩) t9 (show w.heap.size ≤ w.heap.size + 1 by omega) (.slice A10 (j + 1) c10)
              refine hK.out _ _ P10 (fun hS' => ?_)
              clear hK K hS hS' Z9 P9 O9 t9
              try simp only [Act.put, List.getElem_toArray, List.getElem_cons_zero, List.getElem_cons_succ, List.setIfInBounds_toArray, List.set_cons_zero, List.set_cons_succ]
              refine wpAnyH_done (by kernel_rfl) ?_ _
              have HN9 : Hid (base ≤ w9.heap.size) := n9
              have LJ := HLJ.out
              clear n9 hb3
              go_wp2
              go_roundw
              case rel => exact ⟨j + 1, _, LJ, by first | exact round_same HWJ | go_num, t10, P10, Z10, O10, (show Hid (base ≤ _) from by show base ≤ _; rw [msize]; exact HN9.out)⟩
              case measure => first | exact round_less HWJ LJ | (have h := LJ; simp [intOf]; omega)
            · rw [if_pos (by rfl)]
              go_simp
              have bb := Ext.alloc (Below.refl v7.heap.size v7) (.cells #[.slice (some ⟨g7, 0, none⟩) 1 1] 30)
              have rd8 := rd_row v7 #[.slice (some ⟨g7, 0, none⟩) 1 1] 30
              have F8 := (F7.below bb).mono (fun b hb => Fresh.next hb bb)
              clear F7
              obtain ⟨g8, hg8⟩ : ∃ z : Nat, z = v7.heap.size := ⟨_, rfl⟩
              rw [← hg8] at rd8
              have P9 := P5.next bb
              have Z9 := Z5.next bb
              have O9 := O5.next bb
              have t9 := Ext.trans t5 bb
              have n9 := Nat.le_trans n5 bb.size
              refine hK.out _ _ P9 (fun hS' => ?_)
              clear P5 Z5 O5 t5 n5 hK K hS
              have P5 := P9
              have Z5 := Z9
              have O5 := O9
              have t5 := t9
              have n5 := n9
              have hS := hS'
              clear hS' P9 Z9 O9 t9 n9
              try simp only [Act.put, List.getElem_toArray, List.getElem_cons_zero, List.getElem_cons_succ, List.setIfInBounds_toArray, List.set_cons_zero, List.set_cons_succ]
              clear bb
              rw [← hg8]
              clear hg8
              generalize v7.alloc (.cells #[.slice (some ⟨g7, 0, none⟩) 1 1] 30) = v8 at *
              refine wpAnyH_ready (rs := [1]) (by kernel_rfl) (by simp) ?_
              refine AllReadyH.cons rfl (fun K hK => ?_) AllReadyH.nil
              rw [if_pos (by rfl)]
              have yQ := Z5.cell
              go_simp
              refine hK.out _ _ P5 (fun hS' => ?_)
              clear yQ hK K hS
              have hS := hS'
              clear hS'
              try simp only [Act.put, List.getElem_toArray, List.getElem_cons_zero, List.getElem_cons_succ, List.setIfInBounds_toArray, List.set_cons_zero, List.set_cons_succ]
              refine wpAnyH_ready (rs := [5]) (by kernel_rfl) (by simp) ?_
              refine AllReadyH.cons rfl (fun K hK => ?_) AllReadyH.nil
              rw [if_pos (by rfl)]
              refine wp_push (.tmp 18) (.tmp 21) 25 rfl base 30 il _ 24 (.sl (.sl .byte)) Try.underlying25 hil hl0 hl1 hl2 rfl (by decide) v (nulls j) rfl O5 (some ⟨g8, 0, none⟩) 1 _ rfl rd8 _ F8 HBY.out.1 HBY.out.2 n5 ?_
              intro u9 w9 O9 gr9 k9
              have hb3 := HBS.out
              have P9 := P5.grown gr9 (fun e => by have := k9 _ e; omega)
              have Z9 := Z5.grown gr9 (fun e => by have := k9 _ e; omega)
              have t9 := Below.grown t5 gr9 t5.size (fun r e => by have := k9 r e; omega)
              have n9 := Nat.le_trans n5 gr9.size
              refine hK.out _ _ P9 (fun hS' => ?_)
              clear P5 Z5 O5 t5 n5 k9 gr9 F8 rd8 hK K hS
              have hS := hS'
              clear hS'
              obtain ⟨A10, c10, e10⟩ := OwnL.slice O9
              have e11 := e10.trans (HTL.out A10 c10)
              clear e10
              subst e11
              try simp only [Act.put, List.getElem_toArray, List.getElem_cons_zero, List.getElem_cons_succ, List.setIfInBounds_toArray, List.set_cons_zero, List.set_cons_succ]
              refine wpAnyH_take (i := 6) (oi := _) (v := ?_) rfl (by kernel_rfl) (by kernel_rfl) (by kernel_rfl) (fun _ _ _ h => h) (Or.inl ⟨by rfl, ?_⟩) hS ?_
              rotate_left
              · (intro w hSw; (try dsimp only at hSw); go_simp; (try with_reducible rfl))
              rotate_left
              simp only [Act.put, List.getElem_toArray, List.getElem_cons_zero, List.getElem_cons_succ, List.setIfInBounds_toArray, List.set_cons_zero, List.set_cons_succ]
              refine wpAnyH_ready (rs := [7]) (by kernel_rfl) (by simp) ?_
              refine AllReadyH.cons rfl (fun K hK => ?_) AllReadyH.nil
              rw [if_pos (by rfl)]
              have fQ := Z9.free
              have yQ := Z9.cell
              go_simp
              clear fQ yQ
              have Z10 : BoxOf _ (w.heap.size + 1) #[.slice A10 (j + 1) c10, .slice none 0 0] 28 := mbox_self Z9 0 (.slice A10 (j + 1) c10)
              have P10 := mbox_else P9 (show w.heap.size ≠ w.heap.size + 1 by omega) 0 (.slice A10 (j + 1) c10)
              have O10 := OwnL.setElse (k := w.heap.size + 1) (OwnL.cast (nulls_step j).symm O9) (by omega) 0 (.slice A10 (j + 1) c10)
              have t10 := Below.setCell (p := ⟨w.heap.size + 1, 0, none⟩) t9 (show w.heap.size ≤ w.heap.size + 1 by omega) (.slice A10 (j + 1) c10)
              refine hK.out _ _ P10 (fun hS' => ?_)
              clear hK K hS hS' Z9 P9 O9 t9
              try simp only [Act.put, List.getElem_toArray, List.getElem_cons_zero, List.getElem_cons_succ, List.setIfInBounds_toArray, List.set_cons_zero, List.set_cons_succ]
              refine wpAnyH_done (by kernel_rfl) ?_ _
              have HN9 : Hid (base ≤ w9.heap.size) := n9
              have LJ := HLJ.out
              clear n9 hb3
              go_wp2
              go_roundw
              case rel => exact ⟨j + 1, _, LJ, by first | exact round_same HWJ | go_num, t10, P10, Z10, O10, (show Hid (base ≤ _) from by show base ≤ _; rw [msize]; exact HN9.out)⟩
              case measure => first | exact round_less HWJ LJ | (have h := LJ; simp [intOf]; omega)
      · have hje : j = N := by omega
        obtain ⟨Ag, cg, rfl⟩ := OwnL.slice O4
        have Rg := OwnL.rdin O4 (show (nulls j).length * 24 ≤ 140737488355328 by rw [nulls_len]; omega)
        have HRG := Lib.hid Rg
        have HJE := Lib.hid hje
        have hb3 := HBS.out
        clear Rg O4 hje
        have z3 := Z4.cell
        have f3 := Z4.free
        go_wp2
        have B5 : BoxOf _ (w.heap.size + 1) #[.slice Ag (nulls j).length cg, .slice none 0 0] 28 := mbox_self (mbox_self Z4 0 (.slice Ag (nulls j).length cg)) 1 (.slice none 0 0)
        have T5 := Below.setCell (p := ⟨w.heap.size + 1, 1, none⟩) (Below.setCell (p := ⟨w.heap.size + 1, 0, none⟩) t3 (show w.heap.size ≤ w.heap.size + 1 by omega) (.slice Ag (nulls j).length cg)) (show w.heap.size ≤ w.heap.size + 1 by omega) (.slice none 0 0)
        have R5 := (HRG.out.setElse (k := w.heap.size + 1) (fun b hb => by have := hb.1; omega) 0 (.slice Ag (nulls j).length cg)).setElse (k := w.heap.size + 1) (fun b hb => by have := hb.1; omega) 1 (.slice none 0 0)
        have R6 := R5.mono (S' := NewB w.heap.size ((wr.setCell ⟨w.heap.size + 1, 0, none⟩ (.slice Ag (nulls j).length cg)).setCell ⟨w.heap.size + 1, 1, none⟩ (.slice none 0 0))) (fun b hb => ⟨by have := hb.1; omega, by simp only [msize]; exact hb.2.1, (hb.2.2.set _ _).set _ _⟩)
        exact bodyPost_ret (v := .tuple #[.agg #[.slice Ag (nulls j).length cg, .slice none 0 0], .int .i64 0]) (Eq.trans (results_row2 (P := Try.prog) (fn := Try.f29) (p := 2) (u := 3) (ty := 28) rfl _ _ (w.heap.size + 1) 28 #[.slice Ag (nulls j).length cg, .slice none 0 0] (0, 0) _ rfl B5 Try.underlying28 rfl (by kernel_rfl)) rfl) rfl ⟨⟨0, nulls j, Ag, cg, rfl, .inr ⟨HX.out, rfl, by rw [HNN.out, HJE.out]⟩, R6⟩, T5⟩
  · have HB := Lib.hid (blocks_bad x hx)
    have HX := Lib.hid hx
    clear hx
    obtain ⟨id, m, c, r, l, h⟩ := x
    unfold Cfg.val at *
    dsimp only at *
    have C0 := BoxOf.alloc (BoxOf.new w #[.int .u32 (id : Int), .int .i64 m, .int .i64 c, .int .i64 r, .int .i64 l, .int .i64 h] 24) (.cells #[.slice none 0 0, .slice none 0 0] 28)
    have Z0 := BoxOf.new' (w.alloc (.cells #[.int .u32 (id : Int), .int .i64 m, .int .i64 c, .int .i64 r, .int .i64 l, .int .i64 h] 24)) (w.heap.size + 1) #[.slice none 0 0, .slice none 0 0] 28 (by simp)
    have t0 := Ext.alloc (Ext.alloc (Below.refl w.heap.size w) (.cells #[.int .u32 (id : Int), .int .i64 m, .int .i64 c, .int .i64 r, .int .i64 l, .int .i64 h] 24)) (.cells #[.slice none 0 0, .slice none 0 0] 28)
    go_enter Try.func29, Try.ntmps29
    go_upto_region 1 with fail
    generalize (w.alloc (.cells #[.int .u32 (id : Int), .int .i64 m, .int .i64 c, .int .i64 r, .int .i64 l, .int .i64 h] 24)).alloc (.cells #[.slice none 0 0, .slice none 0 0] 28) = W at *
    have x0 := C0.cell
    go_wp2_with fail
    refine (HB.out _).mono ?_
    rintro e w1 ⟨rfl, b1⟩
    have Z1 := Z0.next b1
    have t1 := Ext.trans t0 b1
    have f1 := Z1.free
    have z1 := Z1.cell
    clear x0 C0 Z0 t0 b1
    go_wp2
    have B5 : BoxOf _ (w.heap.size + 1) #[.slice none 0 0, .slice none 0 0] 28 := mbox_self (mbox_self Z1 0 (.slice none 0 0)) 1 (.slice none 0 0)
    have T5 := Below.setCell (p := ⟨w.heap.size + 1, 1, none⟩) (Below.setCell (p := ⟨w.heap.size + 1, 0, none⟩) t1 (show w.heap.size ≤ w.heap.size + 1 by omega) (.slice none 0 0)) (show w.heap.size ≤ w.heap.size + 1 by omega) (.slice none 0 0)
    exact bodyPost_ret (v := .tuple #[.agg #[.slice none 0 0, .slice none 0 0], .int .i64 8]) (Eq.trans (results_row2 (P := Try.prog) (fn := Try.f29) (p := 2) (u := 3) (ty := 28) rfl _ _ (w.heap.size + 1) 28 #[.slice none 0 0, .slice none 0 0] (0, 0) _ rfl B5 Try.underlying28 rfl (by kernel_rfl)) rfl) rfl ⟨⟨8, [], none, 0, rfl, .inl ⟨HX.out, rfl, rfl⟩, rdin_nil3 _ _⟩, T5⟩
end Go.Proofs.Ytclbihcggjjgaaa
/- Layer 30 (model): the program: a request goes on. -/
namespace Go.Proofs.Ytclbihcggjjgaaa
open Go Go.RowKit
set_option linter.unusedSimpArgs false
set_option linter.unusedVariables false

def numB (n : Int) (g : GoTy.T) : Bool := decide (n ≤ nuOf g)
theorem begin1_any (g : GoTy.T) (Ab : Option Addr) (cg : Nat) (Am : Option Addr) (lm cm : Nat) (number : Int) (gn : Nat) (w : World) (B1 : BoxOf w gn #[.int .i64 number] 3) :
    Calls Try.prog 61 #[.agg #[.int .i64 (nuOf g), .int .u8 ((kiOf g).toNat : Int), .int .i64 (atOf g), .int .i64 (manyOf g), .slice Ab (datOf g).length cg, .slice Am lm cm], .pointer (some ⟨gn, 0, none⟩)] w fun e w' => e = .returned (.bool (numB number g)) ∧ Below w.heap.size w w' := by
  have P0 := BoxOf.new w #[.int .i64 (nuOf g), .int .u8 ((kiOf g).toNat : Int), .int .i64 (atOf g), .int .i64 (manyOf g), .slice Ab (datOf g).length cg, .slice Am lm cm] 64
  have t0 := Ext.alloc (Below.refl w.heap.size w) (.cells #[.int .i64 (nuOf g), .int .u8 ((kiOf g).toNat : Int), .int .i64 (atOf g), .int .i64 (manyOf g), .slice Ab (datOf g).length cg, .slice Am lm cm] 64)
  have C1 := B1.alloc (.cells #[.int .i64 (nuOf g), .int .u8 ((kiOf g).toNat : Int), .int .i64 (atOf g), .int .i64 (manyOf g), .slice Ab (datOf g).length cg, .slice Am lm cm] 64)
  unfold numB
  clear B1
  go_enter Try.func61, Try.ntmps61
  go_upto_region 1 with fail
  generalize w.alloc (.cells #[.int .i64 (nuOf g), .int .u8 ((kiOf g).toNat : Int), .int .i64 (atOf g), .int .i64 (manyOf g), .slice Ab (datOf g).length cg, .slice Am lm cm] 64) = W at *
  have x0 := P0.cell
  have y1 := C1.cell
  go_wp2
  go_ret
  exact ⟨rfl, t0⟩

set_option maxRecDepth 100000 in
set_option maxHeartbeats 2000000 in
theorem idxg_begin (S : Nat → Prop) (gs : List GoTy.T) (B : Option Addr) (d : Nat) (number : Int) (gn : Nat) (w : World) (hg : RdIn w S (.sl GoTy) gs [.slice B gs.length d]) (B1 : BoxOf w gn #[.int .i64 number] 3) :
    Calls Try.prog 56 #[.slice B gs.length d, .func (.func 61) #[] #[.pointer (some ⟨gn, 0, none⟩)]] w fun e w' => AtIs (SomeIs (numB number) gs) e ∧ Below w.heap.size w w' := by
  have HG := Lib.hid hg
  have HGM := Lib.hid (go_max hg)
  have HLE : Hid (∀ w', Below w.heap.size w w' → ∀ (g : GoTy.T) (Ab : Option Addr) (cg : Nat) (Am : Option Addr) (lm cm : Nat), Calls Try.prog 61 #[.agg #[.int .i64 (nuOf g), .int .u8 ((kiOf g).toNat : Int), .int .i64 (atOf g), .int .i64 (manyOf g), .slice Ab (datOf g).length cg, .slice Am lm cm], .pointer (some ⟨gn, 0, none⟩)] w' fun e w'' => e = .returned (.bool (numB number g)) ∧ Below w'.heap.size w' w'') := fun w' bb g Ab cg Am lm cm => begin1_any g Ab cg Am lm cm number gn w' (B1.next bb)
  clear hg
  go_enter Try.func56, Try.ntmps56
  go_upto_region 1 with fail
  obtain ⟨W, hW⟩ : ∃ z : World, z = w := ⟨_, rfl⟩
  have b0 : Below W.heap.size W w := by rw [hW]; exact Below.refl _ _
  have HWW := Lib.hid hW
  rw [← hW] at HG
  clear hW
  go_wp2
  go_loopw [5, 8] (fun v i wr => ∃ (j : Nat), j ≤ gs.length ∧ i = .int .i64 j ∧ Below W.heap.size W wr ∧ Hid (∀ i, i < j → NotAt (numB number) gs i)) (fun _ i _ => gs.length - (intOf i).toNat)
  case atStart => exact ⟨0, by omega, rfl, b0, fun i h => absurd h (Nat.not_lt_zero _)⟩
  case round =>
    obtain ⟨j, hj, rfl, b1, HA⟩ := hrel
    clear b0
    have bw : Below w.heap.size w wr := by have := HWW.out; subst this; exact b1
    by_cases hlt : j < gs.length
    · obtain ⟨b, off, Ab, cg, Am, cm, rfl, q0, q1, q2, q3, q4, q5, i0, i1, i2, rb, rm⟩ := go_at (HG.out.below b1) hlt
      have HSK : Hid (NotAt (numB number) gs j ↔ (numB number) gs[j] = false) := ⟨fun h => h hlt, fun h _ => h⟩
      have HSY : Hid ((numB number) gs[j] = true → SomeIs (numB number) gs) := fun h => ⟨j, hlt, h⟩
      skip
      generalize gs[j] = g at *
      have HWJ := next_wrap HGM.out hlt
      have HLJ := Lib.hid hlt
      have HRB := Lib.hid rb
      clear rb rm i0 i1 i2
      rcases Bool.eq_false_or_eq_true ((numB number) g) with e1 | e1
      · have HF := Lib.hid (HSY.out e1)
        skip
        go_wp2_with (go_at_call 61; refine (HLE.out _ bw _ _ _ _ _ _).mono ?_; rintro e w3 ⟨rfl, b3⟩)
        go_ret
        exact ⟨AtIs.at HF.out, Ext.trans bw b3⟩
      · have HA' : Hid (∀ i, i < j + 1 → NotAt (numB number) gs i) := by
          intro i hi
          by_cases h : i = j
          · subst h
            exact HSK.out.2 e1
          · exact HA.out i (by omega)
        skip
        go_wp2_with (go_at_call 61; refine (HLE.out _ bw _ _ _ _ _ _).mono ?_; rintro e w3 ⟨rfl, b3⟩)
        have b5 := Ext.trans b1 b3
        go_roundw
        case rel => exact ⟨j + 1, HLJ.out, by first | exact round_same HWJ | go_num, b5, HA'⟩
        case measure => first | exact round_less HWJ HLJ.out | (have h := HLJ.out; simp [intOf]; omega)
    · have HN := Lib.hid (SomeIs.not HA.out hlt)
      go_wp2
      go_ret
      exact ⟨AtIs.not HN.out, bw⟩
theorem hasg_begin (S : Nat → Prop) (gs : List GoTy.T) (B : Option Addr) (d : Nat) (number : Int) (gn : Nat) (w : World) (hg : RdIn w S (.sl GoTy) gs [.slice B gs.length d]) (B1 : BoxOf w gn #[.int .i64 number] 3) :
    Calls Try.prog 60 #[.slice B gs.length d, .func (.func 61) #[] #[.pointer (some ⟨gn, 0, none⟩)]] w fun e w' => YesNo (SomeIs (numB number) gs) e ∧ Below w.heap.size w w' := by
  have HC := Lib.hid (idxg_begin S gs B d number gn w hg B1)
  clear hg B1
  go_enter Try.func60, Try.ntmps60
  go_wp2_with fail
  refine HC.out.mono ?_
  rintro e w1 ⟨⟨n, rfl, hn⟩, b1⟩
  have HN := Lib.hid hn
  clear hn
  go_wp2
  go_ret
  exact ⟨YesNo.of (by rw [decide_eq_true_iff]; exact HN.out), b1⟩

/-- marks of a flush: the last value of each block -/
def lastOf (ys : List (List (List UInt8))) : List Int := ys.map fun l => (l.length : Int) - 1
def mkOf (ki : UInt8) (ys : List (List (List UInt8))) : List Int := if ki = 4 then lastOf ys else []
def newGo (number : Int) (ki : UInt8) (a y : Int) (bs : List UInt8) (ys : List (List (List UInt8))) : GoTy.T := (number, (ki, a, y, bs, ()), mkOf ki ys, ())
/-- what Begin answers -/
def BegRel (x : Cfg) (ys : List (List (List UInt8))) (gs : List GoTy.T) (number : Int) (ki : UInt8) (a y : Int) (bs : List UInt8) (v : Int) (zs : List (List (List UInt8))) (hs : List GoTy.T) : Prop :=
  (¬ PlainOk x ys gs ∧ v = 8 ∧ zs = [] ∧ hs = []) ∨
  (PlainOk x ys gs ∧ ¬ askCode x (ki.toNat : Int) a y bs.length = 0 ∧ v = askCode x (ki.toNat : Int) a y bs.length ∧ zs = [] ∧ hs = []) ∨
  (PlainOk x ys gs ∧ askCode x (ki.toNat : Int) a y bs.length = 0 ∧ ¬ (1 ≤ number ∧ ¬ SomeIs (numB number) gs) ∧ v = 2 ∧ zs = [] ∧ hs = []) ∨
  (PlainOk x ys gs ∧ askCode x (ki.toNat : Int) a y bs.length = 0 ∧ (1 ≤ number ∧ ¬ SomeIs (numB number) gs) ∧ gs.length = 8 ∧ v = 9 ∧ zs = [] ∧ hs = []) ∨
  (PlainOk x ys gs ∧ askCode x (ki.toNat : Int) a y bs.length = 0 ∧ (1 ≤ number ∧ ¬ SomeIs (numB number) gs) ∧ ¬ gs.length = 8 ∧ v = 0 ∧ zs = ys ∧ hs = gs ++ [newGo number ki a y bs ys])
theorem BegRel.one {x : Cfg} {ys : List (List (List UInt8))} {gs : List GoTy.T} {number : Int} {ki : UInt8} {a y : Int} {bs : List UInt8} {v v' : Int} {zs zs' : List (List (List UInt8))} {hs hs' : List GoTy.T} (h : BegRel x ys gs number ki a y bs v zs hs) (h' : BegRel x ys gs number ki a y bs v' zs' hs') : v = v' ∧ zs = zs' ∧ hs = hs' := by
  rcases h with ⟨h1, rfl, rfl, rfl⟩ | ⟨h1, h2, rfl, rfl, rfl⟩ | ⟨h1, h2, h3, rfl, rfl, rfl⟩ | ⟨h1, h2, h3, h4, rfl, rfl, rfl⟩ | ⟨h1, h2, h3, h4, rfl, rfl, rfl⟩ <;> rcases h' with ⟨k1, rfl, rfl, rfl⟩ | ⟨k1, k2, rfl, rfl, rfl⟩ | ⟨k1, k2, k3, rfl, rfl, rfl⟩ | ⟨k1, k2, k3, k4, rfl, rfl, rfl⟩ | ⟨k1, k2, k3, k4, rfl, rfl, rfl⟩ <;>
    first | exact ⟨rfl, rfl, rfl⟩ | exact absurd h1 k1 | exact absurd k1 h1 | exact absurd h2 k2 | exact absurd k2 h2 | exact absurd h3 k3 | exact absurd k3 h3 | exact absurd h4 k4 | exact absurd k4 h4
def BegIs (base : Nat) (x : Cfg) (ys : List (List (List UInt8))) (gs : List GoTy.T) (number : Int) (ki : UInt8) (a y : Int) (bs : List UInt8) (e : Ending) (w : World) : Prop :=
  ∃ (v : Int) (zs : List (List (List UInt8))) (hs : List GoTy.T) (A' : Option Addr) (c' : Nat) (B' : Option Addr) (d' : Nat), e = .returned (.tuple #[.agg #[.slice A' zs.length c', .slice B' hs.length d'], .int .i64 v]) ∧ BegRel x ys gs number ki a y bs v zs hs ∧ RdIn w (NewB base w) (.sl (.sl (.sl .byte))) zs [.slice A' zs.length c'] ∧ RdIn w (NewB base w) (.sl GoTy) hs [.slice B' hs.length d']
theorem rdin_nilg (w : World) (S : Nat → Prop) : RdIn w S (.sl GoTy) [] [.slice none 0 0] := rdin_sl.2 ⟨none, 0, rfl, by simp, by simp [maxLen], by simp, .inl rfl⟩
theorem BegIs.err {base : Nat} {x : Cfg} {ys : List (List (List UInt8))} {gs : List GoTy.T} {number : Int} {ki : UInt8} {a y : Int} {bs : List UInt8} {w : World} {v : Int} (h : BegRel x ys gs number ki a y bs v [] []) : BegIs base x ys gs number ki a y bs (.returned (.tuple #[.agg #[.slice none 0 0, .slice none 0 0], .int .i64 v])) w :=
  ⟨v, [], [], none, 0, none, 0, rfl, h, rdin_nil3 _ _, rdin_nilg _ _⟩
theorem MarksO.of_own {w : World} {base : Nat} {tid : TypeId} {v : Value} {ms : List Int} (h : w.ownsRow base tid 1 v ms.length (ms.map fun x => Value.int .i64 x)) : MarksO w (Iv base w.heap.size) tid v ms := by
  rcases h.2 with ⟨rfl, h0⟩ | ⟨g, cap, cur, rfl, hg, hh, h5, h6, h7, h8⟩
  · exact .inl ⟨List.eq_nil_of_length_eq_zero h0, none, 0, rfl, by unfold maxLen; omega⟩
  · exact .inr ⟨g, cap, cur, rfl, ⟨hg, (Array.getElem?_eq_some_iff.1 hh).1⟩, hh, h5, h6, by rw [h7, Nat.mul_one], by rw [Nat.mul_one] at h8; exact h8⟩
theorem wpList_pushE {P : Program} {w : World} {α : Type} {n : Nat} {EP : ElemP α n} {ops : Array Oper} {rest : List Oper} {o : Oper} {a : Act} {Q : Exit → Act → World → Prop} (hgd : o.guard = none) (s x : Operand) (t : TypeId)
    (ho : o.op = .call { callee := .builtin .append, args := #[s, x], argTypes := #[t, t] })
    (base : Nat) (tid : TypeId) (i : TypeInfo) (z : Value) (bytes : Nat) (ht : P.underlying t = some (.slice tid)) (hi : P.info? tid = some i) (hz : i.zero = some z)
    (hsize : i.size = n) (hby : i.bytes = bytes) (hzs : z.cells.size = n) (hsz : 0 < n)
    (v : Value) (xs : List α) (F T : Nat → Prop) (hs : a.eval s = v) (hown : OwnE EP w F base tid v xs) (hF : ∀ b, F b → b < w.heap.size)
    (A : Option Addr) (c : Nat) (news : List Value) (hx : a.eval x = .slice A 1 c) (hr : Rd w A news) (y : α) (hy : EP.E w T y news) (hT : ∀ b, T b → ¬ F b ∧ b < w.heap.size)
    (h63 : xs.length + 1 ≤ maxLen) (hbytes : (xs.length + 1) * bytes ≤ 140737488355328) (hbase : base ≤ w.heap.size)
    (h : ∀ v' w', OwnE EP w' (fun b => F b ∨ T b ∨ v'.ownBlock = some b) base tid v' (xs ++ [y]) → w.grownBy w' v.ownBlock → (∀ r, v.ownBlock = some r → base ≤ r) → wpList P ops Q rest (a.put o.dst v') w') : wpList P ops Q (o :: rest) a w :=
  wpList_plain hgd fun _ hK => wp_pushE s x t ho base tid i z bytes ht hi hz hsize hby hzs hsz v xs F T hs hown hF A c news hx hr y hy hT h63 hbytes hbase fun v' w' h2 h3 h4 => hK _ _ (h v' w' h2 h3 h4)
theorem own_form {w : World} {base : Nat} {e : TypeId} {size : Nat} {v : Value} {n : Nat} {xs : List Value} (h : w.ownsRow base e size v n xs) : ∃ A c, v = .slice A n c := by
  rcases h.2 with ⟨rfl, h0⟩ | ⟨g, cap, cur, rfl, _⟩
  · exact ⟨none, 0, by rw [h0]⟩
  · exact ⟨_, _, rfl⟩
/-- a box of another type is no row of one's own -/
theorem OwnE.box_ne {α : Type} {n : Nat} {P : ElemP α n} {w : World} {F : Nat → Prop} {base g : Nat} {tid t : TypeId} {v : Value} {xs : List α} {cs : Array Value} (h : OwnE P w F base tid v xs) (hb : BoxOf w g cs t) (ht : t ≠ tid) : v.ownBlock ≠ some g := by
  obtain ⟨ess, _, ho⟩ := h.own
  rcases ho.2 with ⟨rfl, _⟩ | ⟨g', cap, cur, rfl, _, hh, _⟩
  · intro e; cases e
  · intro e
    have e' : g' = g := Option.some.inj e
    subst e'
    unfold BoxOf at hb
    rw [hb] at hh
    have h1 := Option.some.inj hh
    injection h1 with _ h2
    exact ht h2
def mkV (ys : List (List (List UInt8))) (j : Nat) : List Value := ((lastOf ys).take j).map fun x => Value.int .i64 x
theorem lastOf_len (ys : List (List (List UInt8))) : (lastOf ys).length = ys.length := List.length_map _
theorem mkV_step {ys : List (List (List UInt8))} {j : Nat} (h : j < ys.length) : mkV ys (j + 1) = mkV ys j ++ [.int .i64 (((ys[j]).length : Int) - 1)] := by
  unfold mkV
  have h' : j < (lastOf ys).length := by rw [lastOf_len]; exact h
  rw [List.take_succ_eq_append_getElem h', List.map_append]
  congr 1
  simp [lastOf]
theorem own_setLo {w : World} {lo : Nat} {e : TypeId} {size : Nat} {v : Value} {n : Nat} {xs : List Value} (h : w.ownsRow (lo + 1) e size v n xs) (i : Nat) (u : Value) : (w.setCell ⟨lo, i, none⟩ u).ownsRow (lo + 1) e size v n xs :=
  own_frame h fun r hr => Below.heap_setCell _ _ _ _ (show r ≠ lo by have := own_block h hr; omega)
theorem mkV_all (ys : List (List (List UInt8))) : mkV ys ys.length = (lastOf ys).map fun x => Value.int .i64 x := by
  unfold mkV
  rw [List.take_of_length_le (by rw [lastOf_len]; omega)]

set_option maxRecDepth 100000 in
set_option maxHeartbeats 4000000 in
theorem sbegin_any (S : Nat → Prop) (x : Cfg) (ys : List (List (List UInt8))) (gs : List GoTy.T) (A : Option Addr) (ca : Nat) (B : Option Addr) (cb : Nat) (number : Int) (hnum : IsInt number) (ki : UInt8) (a y : Int) (D : Option Addr) (dc : Nat) (bs : List UInt8) (w : World) (hy : RdIn w S (.sl (.sl (.sl .byte))) ys [.slice A ys.length ca]) (hg : RdIn w S (.sl GoTy) gs [.slice B gs.length cb]) (hd : RdIn w S (.sl .byte) bs [.slice D bs.length dc]) :
    Calls Try.prog 24 #[x.val, .agg #[.slice A ys.length ca, .slice B gs.length cb], .int .i64 number, .agg #[.int .u8 (ki.toNat : Int), .int .i64 a, .int .i64 y, .slice D bs.length dc]] w fun e w' => BegIs w.heap.size x ys gs number ki a y bs e w' ∧ Below w.heap.size w w' := by
  obtain ⟨iu, hu, hu0, hu1, hu2⟩ := minfo_u8
  obtain ⟨ii, hii, hi0, hi1, hi2⟩ := minfo_int
  obtain ⟨ig, hig, hg0, hg1, hg2⟩ := minfo_going
  have HPC : Hid (∀ w', Below w.heap.size w w' → Calls Try.prog 18 #[x.val, .agg #[.slice A ys.length ca, .slice B gs.length cb]] w' fun e w'' => OkBad (PlainOk x ys gs) e ∧ Below w'.heap.size w' w'') := fun w' bb => spcheck_any S x ys gs A ca B cb w' (hy.below bb) (hg.below bb)
  have HSC : Hid (∀ w', Calls Try.prog 47 #[x.val, .agg #[.int .u8 (ki.toNat : Int), .int .i64 a, .int .i64 y, .slice D bs.length dc]] w' fun e w'' => e = .returned (.int .i64 (askCode x (ki.toNat : Int) a y bs.length)) ∧ Below w'.heap.size w' w'') := fun w' => scheck_all x (ki.toNat : Int) a y D bs.length dc w'
  have HCF : Hid (∀ w', Below w.heap.size w w' → BoxOf w' (w.heap.size + 2) #[.int .i64 number] 3 → Calls Try.prog 60 #[.slice B gs.length cb, .func (.func 61) #[] #[.pointer (some ⟨w.heap.size + 2, 0, none⟩)]] w' fun e w'' => YesNo (SomeIs (numB number) gs) e ∧ Below w'.heap.size w' w'') := fun w' bb hB => hasg_begin S gs B cb number (w.heap.size + 2) w' (hg.below bb) hB
  have HTW : Hid (∀ w', Below w.heap.size w w' → Calls Try.prog 33 #[.agg #[.slice A ys.length ca, .slice B gs.length cb]] w' fun e w'' => TwinIs w'.heap.size ys gs e w'' ∧ Below w'.heap.size w' w'') := fun w' bb => stwin_any S ys gs A ca B cb w' (hy.below bb) (hg.below bb)
  have HCL : Hid (∀ w', Below w.heap.size w w' → Calls Try.prog 44 #[.slice D bs.length dc] w' fun e w'' => (∃ v, e = .returned v ∧ RdIn w'' (NewB w'.heap.size w'') (.sl .byte) bs [v]) ∧ Below w'.heap.size w' w'') := fun w' bb => clone_any S bs D dc w' (hd.below bb)
  have HY := Lib.hid hy
  have HN := Lib.hid hnum
  have HYM := Lib.hid (may_max hy)
  have hyz : Hid (ys.length * 24 ≤ 140737488355328) := by
    obtain ⟨_, _, _, _, h1, _⟩ := view3 hy
    exact h1
  clear hy hg hd hnum
  have hmf : ∀ (fn : Fn) (first cap : Array Value) (w : World), (Instr.makeFunc fn first cap).run Try.prog w = .ok (.func fn first cap) w := fun _ _ _ _ => rfl
  obtain ⟨id, m, c, r, l, h⟩ := x
  unfold Cfg.val at *
  dsimp only at *
  have C0 := BoxOf.alloc (BoxOf.alloc (BoxOf.alloc (BoxOf.alloc (BoxOf.new w #[.int .u32 (id : Int), .int .i64 m, .int .i64 c, .int .i64 r, .int .i64 l, .int .i64 h] 24) (.cells #[.slice A ys.length ca, .slice B gs.length cb] 28)) (.cells #[.int .i64 number] 3)) (.cells #[.int .u8 (ki.toNat : Int), .int .i64 a, .int .i64 y, .slice D bs.length dc] 58)) (.cells #[.slice none 0 0, .slice none 0 0] 28)
  have P0 := BoxOf.alloc (BoxOf.alloc (BoxOf.alloc (BoxOf.new' (w.alloc (.cells #[.int .u32 (id : Int), .int .i64 m, .int .i64 c, .int .i64 r, .int .i64 l, .int .i64 h] 24)) (w.heap.size + 1) #[.slice A ys.length ca, .slice B gs.length cb] 28 (by simp)) (.cells #[.int .i64 number] 3)) (.cells #[.int .u8 (ki.toNat : Int), .int .i64 a, .int .i64 y, .slice D bs.length dc] 58)) (.cells #[.slice none 0 0, .slice none 0 0] 28)
  have N0 := BoxOf.alloc (BoxOf.alloc (BoxOf.new' ((w.alloc (.cells #[.int .u32 (id : Int), .int .i64 m, .int .i64 c, .int .i64 r, .int .i64 l, .int .i64 h] 24)).alloc (.cells #[.slice A ys.length ca, .slice B gs.length cb] 28)) (w.heap.size + 2) #[.int .i64 number] 3 (by simp)) (.cells #[.int .u8 (ki.toNat : Int), .int .i64 a, .int .i64 y, .slice D bs.length dc] 58)) (.cells #[.slice none 0 0, .slice none 0 0] 28)
  have Q0 := BoxOf.alloc (BoxOf.new' (((w.alloc (.cells #[.int .u32 (id : Int), .int .i64 m, .int .i64 c, .int .i64 r, .int .i64 l, .int .i64 h] 24)).alloc (.cells #[.slice A ys.length ca, .slice B gs.length cb] 28)).alloc (.cells #[.int .i64 number] 3)) (w.heap.size + 3) #[.int .u8 (ki.toNat : Int), .int .i64 a, .int .i64 y, .slice D bs.length dc] 58 (by simp)) (.cells #[.slice none 0 0, .slice none 0 0] 28)
  have Z0 := BoxOf.new' ((((w.alloc (.cells #[.int .u32 (id : Int), .int .i64 m, .int .i64 c, .int .i64 r, .int .i64 l, .int .i64 h] 24)).alloc (.cells #[.slice A ys.length ca, .slice B gs.length cb] 28)).alloc (.cells #[.int .i64 number] 3)).alloc (.cells #[.int .u8 (ki.toNat : Int), .int .i64 a, .int .i64 y, .slice D bs.length dc] 58)) (w.heap.size + 4) #[.slice none 0 0, .slice none 0 0] 28 (by simp)
  have t0 := Ext.alloc (Ext.alloc (Ext.alloc (Ext.alloc (Ext.alloc (Below.refl w.heap.size w) (.cells #[.int .u32 (id : Int), .int .i64 m, .int .i64 c, .int .i64 r, .int .i64 l, .int .i64 h] 24)) (.cells #[.slice A ys.length ca, .slice B gs.length cb] 28)) (.cells #[.int .i64 number] 3)) (.cells #[.int .u8 (ki.toNat : Int), .int .i64 a, .int .i64 y, .slice D bs.length dc] 58)) (.cells #[.slice none 0 0, .slice none 0 0] 28)
  go_enter Try.func24, Try.ntmps24
  go_upto_region 1 with fail
  generalize ((((w.alloc (.cells #[.int .u32 (id : Int), .int .i64 m, .int .i64 c, .int .i64 r, .int .i64 l, .int .i64 h] 24)).alloc (.cells #[.slice A ys.length ca, .slice B gs.length cb] 28)).alloc (.cells #[.int .i64 number] 3)).alloc (.cells #[.int .u8 (ki.toNat : Int), .int .i64 a, .int .i64 y, .slice D bs.length dc] 58)).alloc (.cells #[.slice none 0 0, .slice none 0 0] 28) = W at *
  have c0 := C0.cell
  have p0 := P0.cell
  go_wp2_with fail
  refine (HPC.out _ t0).mono ?_
  rintro e w1 ⟨h1, b1⟩
  have C1 := C0.next b1
  have c1 := C1.cell
  have P1 := P0.next b1
  have N1 := N0.next b1
  have Q1 := Q0.next b1
  have Z1 := Z0.next b1
  have t1 := Ext.trans t0 b1
  have p1 := P1.cell
  have n1 := N1.cell
  have q1 := Q1.cell
  have z1 := Z1.cell
  have f1 := Z1.free
  clear c0 p0 C0 P0 N0 Q0 Z0 t0 b1
  rcases h1 with ⟨hok, rfl⟩ | ⟨hno, rfl⟩
  · have HOK := Lib.hid hok
    clear hok
    go_wp2_with fail
    refine (HSC.out _).mono ?_
    rintro e w2 ⟨rfl, b2⟩
    have P2 := P1.next b2
    have N2 := N1.next b2
    have Q2 := Q1.next b2
    have Z2 := Z1.next b2
    have t2 := Ext.trans t1 b2
    have p2 := P2.cell
    have n2 := N2.cell
    have q2 := Q2.cell
    have z2 := Z2.cell
    have f2 := Z2.free
    clear c1 C1 p1 n1 q1 z1 f1 P1 N1 Q1 Z1 t1 b2
    by_cases hc : askCode ⟨id, m, c, r, l, h⟩ (ki.toNat : Int) a y bs.length = 0
    · have HC0 := Lib.hid hc
      rw [hc]
      clear hc
      rcases Bool.eq_false_or_eq_true (decide (number < 1)) with e1 | e1
      · have HLT : Hid (number < 1) := by show _ < _; exact of_decide_eq_true e1
        go_wp2
        have f9 := (Z2).free
        have B5 : BoxOf _ (w.heap.size + 4) #[.slice none 0 0, .slice none 0 0] 28 := mbox_self (mbox_self Z2 0 (.slice none 0 0)) 1 (.slice none 0 0)
        have T5 := Below.setCell (p := ⟨w.heap.size + 4, 1, none⟩) (Below.setCell (p := ⟨w.heap.size + 4, 0, none⟩) t2 (show w.heap.size ≤ w.heap.size + 4 by omega) (.slice none 0 0)) (show w.heap.size ≤ w.heap.size + 4 by omega) (.slice none 0 0)
        exact bodyPost_ret (v := .tuple #[.agg #[.slice none 0 0, .slice none 0 0], .int .i64 (2)]) (Eq.trans (results_row2 (P := Try.prog) (fn := Try.f24) (p := 8) (u := 9) (ty := 28) rfl _ _ (w.heap.size + 4) 28 #[.slice none 0 0, .slice none 0 0] (0, 0) _ rfl B5 Try.underlying28 rfl (by kernel_rfl)) rfl) rfl ⟨BegIs.err (.inr (.inr (.inl ⟨HOK.out, HC0.out, fun h => by have := HLT.out; omega, rfl, rfl, rfl⟩))), T5⟩
      · have HGE : Hid (1 ≤ number) := by have := of_decide_eq_false e1; show _ ≤ _; omega
        go_wp2_with fail
        refine (HCF.out _ t2 N2).mono ?_
        rintro e w3 ⟨⟨bv, rfl, hbv⟩, b3⟩
        have P3 := P2.next b3
        have N3 := N2.next b3
        have Q3 := Q2.next b3
        have Z3 := Z2.next b3
        have t3 := Ext.trans t2 b3
        have p3 := P3.cell
        have n3 := N3.cell
        have q3 := Q3.cell
        have z3 := Z3.cell
        have f3 := Z3.free
        have HBV := Lib.hid hbv
        clear hbv p2 n2 q2 z2 f2 P2 N2 Q2 Z2 t2 b3
        cases bv with
        | true =>
          go_wp2
          have f9 := (Z3).free
          have B5 : BoxOf _ (w.heap.size + 4) #[.slice none 0 0, .slice none 0 0] 28 := mbox_self (mbox_self Z3 0 (.slice none 0 0)) 1 (.slice none 0 0)
          have T5 := Below.setCell (p := ⟨w.heap.size + 4, 1, none⟩) (Below.setCell (p := ⟨w.heap.size + 4, 0, none⟩) t3 (show w.heap.size ≤ w.heap.size + 4 by omega) (.slice none 0 0)) (show w.heap.size ≤ w.heap.size + 4 by omega) (.slice none 0 0)
          exact bodyPost_ret (v := .tuple #[.agg #[.slice none 0 0, .slice none 0 0], .int .i64 (2)]) (Eq.trans (results_row2 (P := Try.prog) (fn := Try.f24) (p := 8) (u := 9) (ty := 28) rfl _ _ (w.heap.size + 4) 28 #[.slice none 0 0, .slice none 0 0] (0, 0) _ rfl B5 Try.underlying28 rfl (by kernel_rfl)) rfl) rfl ⟨BegIs.err (.inr (.inr (.inl ⟨HOK.out, HC0.out, fun h => h.2 (HBV.out.1 (by first | rfl | trivial)), rfl, rfl, rfl⟩))), T5⟩
        | false =>
          have HNO : Hid (1 ≤ number ∧ ¬ SomeIs (numB number) gs) := ⟨HGE.out, fun h => by have := HBV.out.2 h; cases this⟩
          rcases Bool.eq_false_or_eq_true (decide ((gs.length : Int) = 8)) with e2 | e2
          · have HL : Hid (gs.length = 8) := by have := of_decide_eq_true e2; show _ = _; omega
            have e2' : ((gs.length : Int) == 8) = true := by have := of_decide_eq_true e2; simp [this]
            go_wp2
            have f9 := (Z3).free
            have B5 : BoxOf _ (w.heap.size + 4) #[.slice none 0 0, .slice none 0 0] 28 := mbox_self (mbox_self Z3 0 (.slice none 0 0)) 1 (.slice none 0 0)
            have T5 := Below.setCell (p := ⟨w.heap.size + 4, 1, none⟩) (Below.setCell (p := ⟨w.heap.size + 4, 0, none⟩) t3 (show w.heap.size ≤ w.heap.size + 4 by omega) (.slice none 0 0)) (show w.heap.size ≤ w.heap.size + 4 by omega) (.slice none 0 0)
            exact bodyPost_ret (v := .tuple #[.agg #[.slice none 0 0, .slice none 0 0], .int .i64 (9)]) (Eq.trans (results_row2 (P := Try.prog) (fn := Try.f24) (p := 8) (u := 9) (ty := 28) rfl _ _ (w.heap.size + 4) 28 #[.slice none 0 0, .slice none 0 0] (0, 0) _ rfl B5 Try.underlying28 rfl (by kernel_rfl)) rfl) rfl ⟨BegIs.err (.inr (.inr (.inr (.inl ⟨HOK.out, HC0.out, HNO.out, HL.out, rfl, rfl, rfl⟩)))), T5⟩
          · have HL : Hid (¬ gs.length = 8) := by have := of_decide_eq_false e2; show ¬ _; omega
            have e2' : ((gs.length : Int) == 8) = false := by have := of_decide_eq_false e2; simpa using this
            go_wp2_with fail
            refine (HTW.out _ t3).mono ?_
            rintro e w4 ⟨⟨vy, vg, mm, rfl, hm1, hm2, O4, G4⟩, b4⟩
            obtain ⟨Ay, cy, rfl⟩ := O4.slice
            obtain ⟨Ag, cg, rfl⟩ := G4.slice
            have hw34 := t3.size
            have hz3 := Z3.lt
            have P4 := P3.next b4
            have N4 := N3.next b4
            have Q4 := Q3.next b4
            have Z4 := Z3.next b4
            have t4 := Ext.trans t3 b4
            have p4 := P4.cell
            have n4 := N4.cell
            have q4 := Q4.cell
            have z4 := Z4.cell
            have f4 := Z4.free
            clear p3 n3 q3 z3 f3 P3 N3 Q3 Z3 t3 b4 p4 n4 q4 z4 f4
            have hb1 := Ext.alloc (Below.refl w4.heap.size w4) (.cells #[.slice Ay ys.length cy, .slice Ag gs.length cg] 28)
            have T5 := BoxOf.new w4 #[.slice Ay ys.length cy, .slice Ag gs.length cg] 28
            have N5 := N4.next hb1
            have Q5 := Q4.next hb1
            have P5 := P4.next hb1
            have Z5 := Z4.next hb1
            have t5 := Ext.trans t4 hb1
            have O5 := O4.next (fun b hb => Nat.lt_of_lt_of_le hb.2 hm2) hb1
            have G5 := G4.next (fun b hb => hb.2) hb1
            have hgl := G4.lt
            have hs5 := T5.lt
            obtain ⟨tb, htb⟩ : ∃ z : Nat, z = w4.heap.size := ⟨_, rfl⟩
            obtain ⟨lo3, hlo3⟩ : ∃ z : Nat, z = w3.heap.size := ⟨_, rfl⟩
            have hwt : w.heap.size + 4 < lo3 ∧ lo3 ≤ mm ∧ mm ≤ tb := by omega
            rw [← htb] at T5 G5 hgl hs5
            rw [← hlo3] at O5
            have HGL := Lib.hid hgl
            have z4 := Z4.cell
            have f4 := Z4.free
            go_upto_region 12 with fail
            rw [← htb]
            have HWT := Lib.hid hwt
            have HS5 := Lib.hid hs5
            clear htb hlo3 hb1 O4 G4 Q4 N4 Z4 P4 t4 z4 f4 hgl hm1 hm2 hw34 hz3 hwt hs5 e1 e2 e2'
            generalize w4.alloc (.cells #[.slice Ay ys.length cy, .slice Ag gs.length cg] 28) = W5 at *
            have q5 := Q5.cell
            go_wp2_with fail
            refine (HCL.out _ t5).mono ?_
            rintro e w6 ⟨⟨vb, rfl, r6⟩, b6⟩
            obtain ⟨Dn, dn, rfl⟩ := bytesV r6
            have N6 := N5.next b6
            have Q6 := Q5.next b6
            have P6 := P5.next b6
            have Z6 := Z5.next b6
            have T6 := T5.next b6
            have t6 := Ext.trans t5 b6
            have O6 := O5.next (fun b hb => by have := hb.2; have := HWT.out; have := HS5.out; omega) b6
            have G6 := G5.next (fun b hb => by have := hb.2; have := HWT.out; have := HS5.out; omega) b6
            have hs6 := b6.size
            have HS6 := Lib.hid hs6
            have q6 := Q6.cell
            have qf := Q6.free
            clear q5 N5 Q5 P5 Z5 T5 t5 O5 G5 b6 hs6
            go_upto_region 13 with fail
            have hw8 := HWT.out
            have hs8 := HS5.out
            have N7 := mbox_else N6 (show w.heap.size + 2 ≠ w.heap.size + 3 by omega) 3 (.slice Dn bs.length dn)
            have P7 := mbox_else P6 (show w.heap.size + 1 ≠ w.heap.size + 3 by omega) 3 (.slice Dn bs.length dn)
            have Q7 : BoxOf _ (w.heap.size + 3) #[.int .u8 (ki.toNat : Int), .int .i64 a, .int .i64 y, .slice Dn bs.length dn] 58 := mbox_self Q6 3 (.slice Dn bs.length dn)
            have Z7 := mbox_else Z6 (show w.heap.size + 4 ≠ w.heap.size + 3 by omega) 3 (.slice Dn bs.length dn)
            have T7 := mbox_else T6 (show tb ≠ w.heap.size + 3 by omega) 3 (.slice Dn bs.length dn)
            have O7 := OwnE.setElse (k := w.heap.size + 3) O6 (fun h => by have := h.1; omega) 3 (.slice Dn bs.length dn)
            have G7 := OwnE.setElse (k := w.heap.size + 3) G6 (fun h => by have := h.1; omega) 3 (.slice Dn bs.length dn)
            have t7 := Below.setCell (p := ⟨w.heap.size + 3, 3, none⟩) t6 (show w.heap.size ≤ w.heap.size + 3 by omega) (.slice Dn bs.length dn)
            have r7 := (r6.setElse (k := w.heap.size + 3) (fun b hb => by have := hb.1; omega) 3 (.slice Dn bs.length dn)).mono (S' := fun b => Iv W5.heap.size w6.heap.size b ∧ Live (w6.setCell ⟨w.heap.size + 3, 3, none⟩ (.slice Dn bs.length dn)) b) (fun b hb => ⟨⟨hb.1, hb.2.1⟩, hb.2.2.set _ _⟩)
            have hs7 : (w6.setCell ⟨w.heap.size + 3, 3, none⟩ (.slice Dn bs.length dn)).heap.size = w6.heap.size := msize ..
            clear q6 qf N6 Q6 P6 Z6 T6 t6 O6 G6 r6 hw8 hs8
            generalize w6.setCell ⟨w.heap.size + 3, 3, none⟩ (.slice Dn bs.length dn) = W7 at *
            have bR := Ext.alloc (Below.refl W7.heap.size W7) (.cells #[.int .i64 number, .int .u8 (ki.toNat : Int), .int .i64 a, .int .i64 y, .slice Dn bs.length dn, .slice none 0 0] 64)
            have R8 := BoxOf.new W7 #[.int .i64 number, .int .u8 (ki.toNat : Int), .int .i64 a, .int .i64 y, .slice Dn bs.length dn, .slice none 0 0] 64
            have hmz : mm ≤ W7.heap.size ∧ tb ≤ W7.heap.size := by have := HWT.out; have := HS5.out; have := HS6.out; omega
            have Q8 := Q7.next bR
            have P8 := P7.next bR
            have Z8 := Z7.next bR
            have T8 := T7.next bR
            have O8 := O7.next (fun b hb => by have := hb.2; omega) bR
            have G8 := G7.next (fun b hb => by have := hb.2; omega) bR
            have t8 := Ext.trans t7 bR
            have r8 : RdIn _ (fun b => Iv W5.heap.size w6.heap.size b ∧ Live _ b) (.sl .byte) bs [.slice Dn bs.length dn] := (r7.below bR).mono (fun b hb => ⟨hb.1, hb.2.below bR⟩)
            have n7 := N7.cell
            have q7 := Q7.cell
            obtain ⟨lo2, hlo2⟩ : ∃ z : Nat, z = W7.heap.size := ⟨_, rfl⟩
            obtain ⟨lo5, hlo5⟩ : ∃ z : Nat, z = W5.heap.size := ⟨_, rfl⟩
            have hLO : tb < lo5 ∧ lo5 ≤ lo2 := by have := HS5.out; have := HS6.out; omega
            rw [← hs7, ← hlo2, ← hlo5] at r8
            rw [← hlo2] at R8
            clear hs7
            go_upto_region 14 with fail
            rw [← hlo2]
            have HLO := Lib.hid hLO
            have HAY : Hid (IsInt a ∧ IsInt y) := by
              obtain ⟨_, _, _, h1, h2, _⟩ := askCode_0 HC0.out
              show _ ∧ _
              unfold IsInt
              omega
            clear hlo2 hlo5 hLO bR hmz n7 q7 N7 Q7 P7 Z7 T7 O7 G7 t7 r7
            generalize W7.alloc (.cells #[.int .i64 number, .int .u8 (ki.toNat : Int), .int .i64 a, .int .i64 y, .slice Dn bs.length dn, .slice none 0 0] 64) = W8 at *
            have q8 := Q8.cell
            rcases Bool.eq_false_or_eq_true ((ki.toNat : Int) == 4) with e4 | e4
            · have hk4 : ki = 4 := by
                have h1 : (ki.toNat : Int) = 4 := by simpa using e4
                exact UInt8.toNat_inj.1 (by show ki.toNat = 4; omega)
              have HMS : Hid (newGo number ki a y bs ys = (number, (ki, a, y, bs, ()), lastOf ys, ())) := by
                have h1 : mkOf ki ys = lastOf ys := if_pos hk4
                exact congrArg (fun z : List Int => (show GoTy.T from (number, (ki, a, y, bs, ()), z, ()))) h1
              have HMI : Hid ((∀ x ∈ lastOf ys, IsInt x) ∧ (lastOf ys).length * 8 ≤ 140737488355328) := by
                refine ⟨fun x hx => ?_, ?_⟩
                · unfold lastOf at hx
                  rw [List.mem_map] at hx
                  obtain ⟨l, hl, rfl⟩ := hx
                  obtain ⟨i, hi, rfl⟩ := List.getElem_of_mem hl
                  have h1 := HOK.out.vals i hi
                  have h2 := h1.1
                  have h3 := h1.2.1
                  unfold IsInt
                  omega
                · rw [lastOf_len]
                  have := hyz.out
                  omega
              have hd4 : decide ((ki.toNat : Int) = 4) = true := by rw [decide_eq_true_iff]; simpa using e4
              clear hk4
              have p8 := P8.cell
              have b80 : Below lo2 W8 W8 := Below.refl _ _
              have own0 : W8.ownsRow (lo2 + 1) 3 1 (.slice none 0 0) 0 (mkV ys 0) := ⟨rfl, .inl ⟨rfl, rfl⟩⟩
              have HW8 : Hid (lo2 + 1 ≤ W8.heap.size) := R8.lt
              go_wp2
              clear q8 p8 e4 hd4
              go_loopw [59] (fun i wr => ∃ (j : Nat) (vm : Value), j ≤ ys.length ∧ i = .int .i64 j ∧ Below w.heap.size w wr ∧ Below lo2 W8 wr ∧ BoxOf wr lo2 #[.int .i64 number, .int .u8 (ki.toNat : Int), .int .i64 a, .int .i64 y, .slice Dn bs.length dn, vm] 64 ∧ wr.ownsRow (lo2 + 1) 3 1 vm j (mkV ys j) ∧ Hid (lo2 + 1 ≤ wr.heap.size)) (fun i _ => ys.length - (intOf i).toNat)
              case atStart => exact ⟨0, .slice none 0 0, by omega, rfl, t8, b80, R8, own0, HW8⟩
              case round =>
                obtain ⟨j, vm, hj, rfl, t9, k9, R9, M9, HN9⟩ := hrel
                clear t8 b80 R8 own0
                by_cases hlt : j < ys.length
                · obtain ⟨b, off, A2, c2, rfl, q2, r2⟩ := may_at (HY.out.below t9) hlt
                  have HSTK := Lib.hid (mkV_step hlt)
                  have hzl : (ys[j]).length ≤ 512 := (HOK.out.vals j hlt).2.1
                  generalize ys[j] = zs at *
                  have HWJ := next_wrap HYM.out hlt
                  have HLJ := Lib.hid hlt
                  have hwz : wrap64 ((zs.length : Int) - 1) = (zs.length : Int) - 1 := IntWalk.wrap64_in _ (by omega)
                  have bb := Ext.alloc (Below.refl wr.heap.size wr) (.cells #[.int .i64 ((zs.length : Int) - 1)] 3)
                  have rd := rd_row wr #[.int .i64 ((zs.length : Int) - 1)] 3
                  have M10 := own_next M9 bb
                  have R10 := R9.next bb
                  have t10 := Ext.trans t9 bb
                  have k10 := k9.trans (bb.mono (show lo2 ≤ wr.heap.size by have := HN9.out; omega))
                  have HS10 : Hid (lo2 + 1 ≤ (wr.alloc (.cells #[.int .i64 ((zs.length : Int) - 1)] 3)).heap.size) := Nat.le_trans HN9.out bb.size
                  have y9 := R9.cell
                  have HBY : Hid (j + 1 ≤ maxLen ∧ (j + 1) * 8 ≤ 140737488355328) := by
                    have h1 := hyz.out
                    have h2 := HLJ.out
                    show _ ∧ _
                    unfold maxLen
                    omega
                  obtain ⟨Am, cm, rfl⟩ := own_form M9
                  clear bb M9 R9 t9 k9 r2 hzl hj hlt
                  go_wp2_with (at_builtin; refine wpList_append_rd _ rfl (.tmp 64) (.tmp 68) 62 rfl (lo2 + 1) 3 ii _ 1 8 Try.underlying62 hii hi0 hi1 hi2 rfl (by decide) _ j (mkV ys j) rfl M10 (some ⟨wr.heap.size, 0, none⟩) 1 _ [.int .i64 ((zs.length : Int) - 1)] rfl (by simp) rd (by intro u hu; simp at hu; subst hu; rfl) HBY.out.1 HBY.out.2 HS10.out ?_; intro v7 w7 M7 g7 k7; rw [← HSTK.out] at M7; obtain ⟨A7, c7, rfl⟩ := own_form M7; have hw9 := HWT.out; have hlo := HLO.out; have R7 := R10.grown g7 (fun e => by have := own_block M10 e; omega); have t7 := Below.grown t10 g7 t10.size (fun r e => by have := own_block M10 e; omega); have kk7 := Below.grown k10 g7 (by have := HS10.out; omega) (fun r e => by have := own_block M10 e; omega); have HN7 := Lib.hid (Nat.le_trans HS10.out g7.size); have y7 := R7.cell; have f7 := R7.free; clear y9 R10 t10 k10 M10 rd g7 k7 hw9 hlo)
                  have hw9 := HWT.out
                  have hlo := HLO.out
                  have R8 : BoxOf _ lo2 #[.int .i64 number, .int .u8 (ki.toNat : Int), .int .i64 a, .int .i64 y, .slice Dn bs.length dn, (.slice A7 (j + 1) c7)] 64 := mbox_self R7 5 (.slice A7 (j + 1) c7)
                  have M8 := own_setLo M7 5 (.slice A7 (j + 1) c7)
                  have t8 := Below.setCell (p := ⟨lo2, 5, none⟩) t7 (show w.heap.size ≤ lo2 by omega) (.slice A7 (j + 1) c7)
                  have k8 := Below.setCell (p := ⟨lo2, 5, none⟩) kk7 (Nat.le_refl _) (.slice A7 (j + 1) c7)
                  clear hw9 hlo
                  go_roundw
                  case rel => exact ⟨j + 1, _, HLJ.out, by first | exact round_same HWJ | go_num, t8, k8, R8, M8, (show Hid (lo2 + 1 ≤ _) from by show lo2 + 1 ≤ _; rw [msize]; exact HN7.out)⟩
                  case measure => first | exact round_less HWJ HLJ.out | (have h := HLJ.out; simp [intOf]; omega)
                · have hje : j = ys.length := by omega
                  have hw9 := HWT.out
                  have hlo := HLO.out
                  have T9 := T8.below k9 (show tb < lo2 by omega)
                  have Z9 := Z8.below k9 (show w.heap.size + 4 < lo2 by omega)
                  have O9 := OwnE.frame O8 (fun b hb => k9.block b (by have := hb.2; omega))
                  have G9 := OwnE.frame G8 (fun b hb => k9.block b (by have := hb.2; omega))
                  have r9 : RdIn wr (fun b => Iv lo5 lo2 b ∧ Live wr b) (.sl .byte) bs [.slice Dn bs.length dn] := (r8.frame (fun b hb => k9.block b hb.1.2)).mono fun b hb => ⟨hb.1, by
                    obtain ⟨cs, t, h1⟩ := hb.2
                    exact ⟨cs, t, by rw [k9.block b hb.1.2]; exact h1⟩⟩
                  have MK : MarksO wr (Iv (lo2 + 1) wr.heap.size) 3 vm (lastOf ys) := MarksO.of_own (by rw [lastOf_len, ← mkV_all]; rw [hje] at M9; exact M9)
                  obtain ⟨Am, cm, rfl⟩ := own_form M9
                  have HJE := Lib.hid hje
                  clear hw9 hlo M9 T8 Z8 O8 G8 r8 hje k9
                  go_upto_region 20 with fail
                  clear hlt hj
                  have hF1 := HWT.out
                  have hF2 := HLO.out
                  have bA := Ext.alloc (Below.refl wr.heap.size wr) (.cells #[.int .i64 number, .int .u8 (ki.toNat : Int), .int .i64 a, .int .i64 y, .slice Dn bs.length dn, (.slice Am j cm)] 64)
                  have TA := T9.next bA
                  have ZA := Z9.next bA
                  have OA := O9.next (fun b hb => by have := hb.2; have := R9.lt; omega) bA
                  have GA := G9.next (fun b hb => by have := hb.2; have := R9.lt; omega) bA
                  have tA := Ext.trans t9 bA
                  have hR2 := R9.lt
                  have hA2 := bA.size
                  have EA : (goE 3).E (wr.alloc (.cells #[.int .i64 number, .int .u8 (ki.toNat : Int), .int .i64 a, .int .i64 y, .slice Dn bs.length dn, (.slice Am j cm)] 64)) (Iv lo5 (wr.alloc (.cells #[.int .i64 number, .int .u8 (ki.toNat : Int), .int .i64 a, .int .i64 y, .slice Dn bs.length dn, (.slice Am j cm)] 64)).heap.size) (newGo number ki a y bs ys) #[.int .i64 number, .int .u8 (ki.toNat : Int), .int .i64 a, .int .i64 y, .slice Dn bs.length dn, (.slice Am j cm)].toList := by
                    rw [HMS.out]
                    refine ⟨number, ki, a, y, bs, (lastOf ys), _, _, rfl, rfl, ⟨HN.out, HAY.out.1, HAY.out.2⟩, HMI.out.1, HMI.out.2, (r9.below bA).mono (fun b hb => ⟨⟨⟨hb.1.1, by have := hb.1.2; omega⟩, hb.2.below bA⟩, MK.ne (by have := hb.1.2; omega)⟩), (MK.frame (fun b hb => bA.block b hb.2)).mono (fun b hb => ⟨by have := hb.1; omega, Nat.lt_of_lt_of_le hb.2 hA2⟩)⟩
                  have rdA := rd_row wr #[.int .i64 number, .int .u8 (ki.toNat : Int), .int .i64 a, .int .i64 y, .slice Dn bs.length dn, (.slice Am j cm)] 64
                  have HBY : Hid (gs.length + 1 ≤ maxLen ∧ (gs.length + 1) * 80 ≤ 140737488355328) := by
                    have h1 := HOK.out.few
                    show _ ∧ _
                    unfold maxLen
                    omega
                  have HTL : Hid (∀ (A : Option Addr) (c : Nat), Value.slice A (gs ++ [newGo number ki a y bs ys]).length c = Value.slice A (gs.length + 1) c) := fun A c => by
                    rw [List.length_append]
                    rfl
                  have yT := T9.cell
                  have yR := R9.cell
                  have hwtb : w.heap.size + 4 < tb := by omega
                  have HEND := Lib.hid (And.intro hF1 (And.intro hF2 (And.intro hR2 hA2)))
                  clear hF1 hF2 hA2 bA T9 Z9 O9 G9 t9 r9 R9
                  go_wp2_with (at_builtin; refine wpList_pushE rfl (.tmp 73) (.tmp 75) 26 rfl mm 64 ig _ 80 Try.underlying26 hig hg0 hg1 hg2 rfl (by decide) _ gs (Iv mm tb) (Iv lo5 (wr.alloc (.cells #[.int .i64 number, .int .u8 (ki.toNat : Int), .int .i64 a, .int .i64 y, .slice Dn bs.length dn, (.slice Am j cm)] 64)).heap.size) rfl GA (fun b hb => by have := hb.2; have := HEND.out; omega) (some ⟨wr.heap.size, 0, none⟩) 1 _ rfl rdA (newGo number ki a y bs ys) EA (fun b hb => ⟨fun hf => by have h1 := hf.2; have h2 := hb.1; have := HEND.out; omega, hb.2⟩) HBY.out.1 HBY.out.2 (by have := HEND.out; omega) ?_; intro v7 w7 O7 g7 k7; obtain ⟨A10, c10, e10⟩ := O7.slice; have e11 := e10.trans (HTL.out A10 c10); subst e11; have hE := HEND.out; have TB := TA.grown g7 (fun e => absurd (HGL.out _ e) (Nat.lt_irrefl _)); have ZB := ZA.grown g7 (fun e => by have := k7 _ e; omega); have tB := Below.grown tA g7 tA.size (fun r e => by have := k7 r e; omega); have OB := OwnE.frame OA (fun b hb => g7.block b (by have := hb.2; omega) (fun e => by have h1 := k7 _ e.symm; have := hb.2; omega)); have HGB := Lib.hid O7; have HNE := Lib.hid (O7.box_ne TB (by decide)); have yB := TB.cell; have fB := TB.free; have zB := ZB.cell; have zf := ZB.free; clear yT yR TA ZA tA OA GA EA rdA g7 k7 O7 e10 hE)
                  have hE := HEND.out
                  have B5 : BoxOf _ (w.heap.size + 4) #[.slice Ay ys.length cy, .slice A10 (gs.length + 1) c10] 28 := mbox_self (mbox_self (mbox_else ZB (show w.heap.size + 4 ≠ tb by omega) 1 (.slice A10 (gs.length + 1) c10)) 0 (.slice Ay ys.length cy)) 1 (.slice A10 (gs.length + 1) c10)
                  have T5 := Below.setCell (p := ⟨w.heap.size + 4, 1, none⟩) (Below.setCell (p := ⟨w.heap.size + 4, 0, none⟩) (Below.setCell (p := ⟨tb, 1, none⟩) tB (show w.heap.size ≤ tb by omega) (.slice A10 (gs.length + 1) c10)) (show w.heap.size ≤ w.heap.size + 4 by omega) (.slice Ay ys.length cy)) (show w.heap.size ≤ w.heap.size + 4 by omega) (.slice A10 (gs.length + 1) c10)
                  have OF := OwnE.setElse (k := w.heap.size + 4) (OwnE.setElse (k := w.heap.size + 4) (OwnE.setElse (k := tb) OB (fun h => by have := h.2; omega) 1 (.slice A10 (gs.length + 1) c10)) (fun h => by have := h.1; omega) 0 (.slice Ay ys.length cy)) (fun h => by have := h.1; omega) 1 (.slice A10 (gs.length + 1) c10)
                  have hn4 : ¬ (fun b => Iv mm tb b ∨ Iv lo5 (wr.alloc (.cells #[.int .i64 number, .int .u8 (ki.toNat : Int), .int .i64 a, .int .i64 y, .slice Dn bs.length dn, (.slice Am j cm)] 64)).heap.size b ∨ (Value.slice A10 (gs.length + 1) c10).ownBlock = some b) (w.heap.size + 4) := fun h => by
                    rcases h with h | h | h
                    · have := h.1; omega
                    · have := h.1; omega
                    · have := HGB.out.base_le _ h; omega
                  have GF := OwnE.setElse (k := w.heap.size + 4) (OwnE.setElse (k := w.heap.size + 4) (OwnE.setElse (k := tb) HGB.out (fun h => by
                    rcases h with h | h | h
                    · have := h.2; omega
                    · have := h.1; omega
                    · exact HNE.out h) 1 (.slice A10 (gs.length + 1) c10)) hn4 0 (.slice Ay ys.length cy)) hn4 1 (.slice A10 (gs.length + 1) c10)
                  have RY := (OF.may_rd hyz.out).mono (S' := NewB w.heap.size (((w7.setCell ⟨tb, 1, none⟩ (.slice A10 (gs.length + 1) c10)).setCell ⟨w.heap.size + 4, 0, none⟩ (.slice Ay ys.length cy)).setCell ⟨w.heap.size + 4, 1, none⟩ (.slice A10 (gs.length + 1) c10))) (fun b hb => ⟨by have := hb.1.1; omega, hb.2.lt, hb.2⟩)
                  have RG := (GF.go_rd (by rw [List.length_append]; exact HBY.out.2)).mono (S' := NewB w.heap.size (((w7.setCell ⟨tb, 1, none⟩ (.slice A10 (gs.length + 1) c10)).setCell ⟨w.heap.size + 4, 0, none⟩ (.slice Ay ys.length cy)).setCell ⟨w.heap.size + 4, 1, none⟩ (.slice A10 (gs.length + 1) c10))) (fun b hb => ⟨by
                    rcases hb.1 with h | h | h
                    · have := h.1; omega
                    · have := h.1; omega
                    · have := HGB.out.base_le _ h; omega, hb.2.lt, hb.2⟩)
                  exact bodyPost_ret (v := .tuple #[.agg #[.slice Ay ys.length cy, .slice A10 (gs.length + 1) c10], .int .i64 0]) (Eq.trans (results_row2 (P := Try.prog) (fn := Try.f24) (p := 8) (u := 9) (ty := 28) rfl _ _ (w.heap.size + 4) 28 #[.slice Ay ys.length cy, .slice A10 (gs.length + 1) c10] (0, 0) _ rfl B5 Try.underlying28 rfl (by kernel_rfl)) rfl) rfl ⟨⟨0, ys, gs ++ [newGo number ki a y bs ys], Ay, cy, A10, c10, by rw [HTL.out A10 c10], .inr (.inr (.inr (.inr ⟨HOK.out, HC0.out, HNO.out, HL.out, rfl, rfl, rfl⟩))), RY, by rw [HTL.out A10 c10]; exact RG⟩, T5⟩
            · have hk4 : ¬ ki = 4 := fun h => by
                subst h
                simp at e4
              have HMS : Hid (newGo number ki a y bs ys = (number, (ki, a, y, bs, ()), [], ())) := by
                have h1 : mkOf ki ys = [] := if_neg hk4
                exact congrArg (fun z : List Int => (show GoTy.T from (number, (ki, a, y, bs, ()), z, ()))) h1
              have HMI : Hid ((∀ x ∈ ([] : List Int), IsInt x) ∧ ([] : List Int).length * 8 ≤ 140737488355328) := ⟨by simp, by simp⟩
              have hd4 : decide ((ki.toNat : Int) = 4) = false := by rw [decide_eq_false_iff_not]; simpa using e4
              have MK : MarksO W8 (Iv (lo2 + 1) W8.heap.size) 3 (.slice none 0 0) [] := .inl ⟨rfl, none, 0, rfl, by unfold maxLen; omega⟩
              clear hk4
              go_upto_region 20 with fail
              clear q8 e4 hd4
              have hF1 := HWT.out
              have hF2 := HLO.out
              have bA := Ext.alloc (Below.refl W8.heap.size W8) (.cells #[.int .i64 number, .int .u8 (ki.toNat : Int), .int .i64 a, .int .i64 y, .slice Dn bs.length dn, (.slice none 0 0)] 64)
              have TA := T8.next bA
              have ZA := Z8.next bA
              have OA := O8.next (fun b hb => by have := hb.2; have := R8.lt; omega) bA
              have GA := G8.next (fun b hb => by have := hb.2; have := R8.lt; omega) bA
              have tA := Ext.trans t8 bA
              have hR2 := R8.lt
              have hA2 := bA.size
              have EA : (goE 3).E (W8.alloc (.cells #[.int .i64 number, .int .u8 (ki.toNat : Int), .int .i64 a, .int .i64 y, .slice Dn bs.length dn, (.slice none 0 0)] 64)) (Iv lo5 (W8.alloc (.cells #[.int .i64 number, .int .u8 (ki.toNat : Int), .int .i64 a, .int .i64 y, .slice Dn bs.length dn, (.slice none 0 0)] 64)).heap.size) (newGo number ki a y bs ys) #[.int .i64 number, .int .u8 (ki.toNat : Int), .int .i64 a, .int .i64 y, .slice Dn bs.length dn, (.slice none 0 0)].toList := by
                rw [HMS.out]
                refine ⟨number, ki, a, y, bs, [], _, _, rfl, rfl, ⟨HN.out, HAY.out.1, HAY.out.2⟩, HMI.out.1, HMI.out.2, (r8.below bA).mono (fun b hb => ⟨⟨⟨hb.1.1, by have := hb.1.2; omega⟩, hb.2.below bA⟩, MK.ne (by have := hb.1.2; omega)⟩), (MK.frame (fun b hb => bA.block b hb.2)).mono (fun b hb => ⟨by have := hb.1; omega, Nat.lt_of_lt_of_le hb.2 hA2⟩)⟩
              have rdA := rd_row W8 #[.int .i64 number, .int .u8 (ki.toNat : Int), .int .i64 a, .int .i64 y, .slice Dn bs.length dn, (.slice none 0 0)] 64
              have HBY : Hid (gs.length + 1 ≤ maxLen ∧ (gs.length + 1) * 80 ≤ 140737488355328) := by
                have h1 := HOK.out.few
                show _ ∧ _
                unfold maxLen
                omega
              have HTL : Hid (∀ (A : Option Addr) (c : Nat), Value.slice A (gs ++ [newGo number ki a y bs ys]).length c = Value.slice A (gs.length + 1) c) := fun A c => by
                rw [List.length_append]
                rfl
              have yT := T8.cell
              have yR := R8.cell
              have hwtb : w.heap.size + 4 < tb := by omega
              have HEND := Lib.hid (And.intro hF1 (And.intro hF2 (And.intro hR2 hA2)))
              clear hF1 hF2 hA2 bA T8 Z8 O8 G8 t8 r8 R8
              go_wp2_with (at_builtin; refine wpList_pushE rfl (.tmp 73) (.tmp 75) 26 rfl mm 64 ig _ 80 Try.underlying26 hig hg0 hg1 hg2 rfl (by decide) _ gs (Iv mm tb) (Iv lo5 (W8.alloc (.cells #[.int .i64 number, .int .u8 (ki.toNat : Int), .int .i64 a, .int .i64 y, .slice Dn bs.length dn, (.slice none 0 0)] 64)).heap.size) rfl GA (fun b hb => by have := hb.2; have := HEND.out; omega) (some ⟨W8.heap.size, 0, none⟩) 1 _ rfl rdA (newGo number ki a y bs ys) EA (fun b hb => ⟨fun hf => by have h1 := hf.2; have h2 := hb.1; have := HEND.out; omega, hb.2⟩) HBY.out.1 HBY.out.2 (by have := HEND.out; omega) ?_; intro v7 w7 O7 g7 k7; obtain ⟨A10, c10, e10⟩ := O7.slice; have e11 := e10.trans (HTL.out A10 c10); subst e11; have hE := HEND.out; have TB := TA.grown g7 (fun e => absurd (HGL.out _ e) (Nat.lt_irrefl _)); have ZB := ZA.grown g7 (fun e => by have := k7 _ e; omega); have tB := Below.grown tA g7 tA.size (fun r e => by have := k7 r e; omega); have OB := OwnE.frame OA (fun b hb => g7.block b (by have := hb.2; omega) (fun e => by have h1 := k7 _ e.symm; have := hb.2; omega)); have HGB := Lib.hid O7; have HNE := Lib.hid (O7.box_ne TB (by decide)); have yB := TB.cell; have fB := TB.free; have zB := ZB.cell; have zf := ZB.free; clear yT yR TA ZA tA OA GA EA rdA g7 k7 O7 e10 hE)
              have hE := HEND.out
              have B5 : BoxOf _ (w.heap.size + 4) #[.slice Ay ys.length cy, .slice A10 (gs.length + 1) c10] 28 := mbox_self (mbox_self (mbox_else ZB (show w.heap.size + 4 ≠ tb by omega) 1 (.slice A10 (gs.length + 1) c10)) 0 (.slice Ay ys.length cy)) 1 (.slice A10 (gs.length + 1) c10)
              have T5 := Below.setCell (p := ⟨w.heap.size + 4, 1, none⟩) (Below.setCell (p := ⟨w.heap.size + 4, 0, none⟩) (Below.setCell (p := ⟨tb, 1, none⟩) tB (show w.heap.size ≤ tb by omega) (.slice A10 (gs.length + 1) c10)) (show w.heap.size ≤ w.heap.size + 4 by omega) (.slice Ay ys.length cy)) (show w.heap.size ≤ w.heap.size + 4 by omega) (.slice A10 (gs.length + 1) c10)
              have OF := OwnE.setElse (k := w.heap.size + 4) (OwnE.setElse (k := w.heap.size + 4) (OwnE.setElse (k := tb) OB (fun h => by have := h.2; omega) 1 (.slice A10 (gs.length + 1) c10)) (fun h => by have := h.1; omega) 0 (.slice Ay ys.length cy)) (fun h => by have := h.1; omega) 1 (.slice A10 (gs.length + 1) c10)
              have hn4 : ¬ (fun b => Iv mm tb b ∨ Iv lo5 (W8.alloc (.cells #[.int .i64 number, .int .u8 (ki.toNat : Int), .int .i64 a, .int .i64 y, .slice Dn bs.length dn, (.slice none 0 0)] 64)).heap.size b ∨ (Value.slice A10 (gs.length + 1) c10).ownBlock = some b) (w.heap.size + 4) := fun h => by
                rcases h with h | h | h
                · have := h.1; omega
                · have := h.1; omega
                · have := HGB.out.base_le _ h; omega
              have GF := OwnE.setElse (k := w.heap.size + 4) (OwnE.setElse (k := w.heap.size + 4) (OwnE.setElse (k := tb) HGB.out (fun h => by
                rcases h with h | h | h
                · have := h.2; omega
                · have := h.1; omega
                · exact HNE.out h) 1 (.slice A10 (gs.length + 1) c10)) hn4 0 (.slice Ay ys.length cy)) hn4 1 (.slice A10 (gs.length + 1) c10)
              have RY := (OF.may_rd hyz.out).mono (S' := NewB w.heap.size (((w7.setCell ⟨tb, 1, none⟩ (.slice A10 (gs.length + 1) c10)).setCell ⟨w.heap.size + 4, 0, none⟩ (.slice Ay ys.length cy)).setCell ⟨w.heap.size + 4, 1, none⟩ (.slice A10 (gs.length + 1) c10))) (fun b hb => ⟨by have := hb.1.1; omega, hb.2.lt, hb.2⟩)
              have RG := (GF.go_rd (by rw [List.length_append]; exact HBY.out.2)).mono (S' := NewB w.heap.size (((w7.setCell ⟨tb, 1, none⟩ (.slice A10 (gs.length + 1) c10)).setCell ⟨w.heap.size + 4, 0, none⟩ (.slice Ay ys.length cy)).setCell ⟨w.heap.size + 4, 1, none⟩ (.slice A10 (gs.length + 1) c10))) (fun b hb => ⟨by
                rcases hb.1 with h | h | h
                · have := h.1; omega
                · have := h.1; omega
                · have := HGB.out.base_le _ h; omega, hb.2.lt, hb.2⟩)
              exact bodyPost_ret (v := .tuple #[.agg #[.slice Ay ys.length cy, .slice A10 (gs.length + 1) c10], .int .i64 0]) (Eq.trans (results_row2 (P := Try.prog) (fn := Try.f24) (p := 8) (u := 9) (ty := 28) rfl _ _ (w.heap.size + 4) 28 #[.slice Ay ys.length cy, .slice A10 (gs.length + 1) c10] (0, 0) _ rfl B5 Try.underlying28 rfl (by kernel_rfl)) rfl) rfl ⟨⟨0, ys, gs ++ [newGo number ki a y bs ys], Ay, cy, A10, c10, by rw [HTL.out A10 c10], .inr (.inr (.inr (.inr ⟨HOK.out, HC0.out, HNO.out, HL.out, rfl, rfl, rfl⟩))), RY, by rw [HTL.out A10 c10]; exact RG⟩, T5⟩
    · have HC0 := Lib.hid hc
      have e1 : (askCode ⟨id, m, c, r, l, h⟩ (ki.toNat : Int) a y bs.length != 0) = true := by simpa using hc
      generalize hE : askCode ⟨id, m, c, r, l, h⟩ (ki.toNat : Int) a y bs.length = E at *
      have HE := Lib.hid hE
      clear hE hc
      go_wp2
      have f9 := (Z2).free
      have B5 : BoxOf _ (w.heap.size + 4) #[.slice none 0 0, .slice none 0 0] 28 := mbox_self (mbox_self Z2 0 (.slice none 0 0)) 1 (.slice none 0 0)
      have T5 := Below.setCell (p := ⟨w.heap.size + 4, 1, none⟩) (Below.setCell (p := ⟨w.heap.size + 4, 0, none⟩) t2 (show w.heap.size ≤ w.heap.size + 4 by omega) (.slice none 0 0)) (show w.heap.size ≤ w.heap.size + 4 by omega) (.slice none 0 0)
      exact bodyPost_ret (v := .tuple #[.agg #[.slice none 0 0, .slice none 0 0], .int .i64 (E)]) (Eq.trans (results_row2 (P := Try.prog) (fn := Try.f24) (p := 8) (u := 9) (ty := 28) rfl _ _ (w.heap.size + 4) 28 #[.slice none 0 0, .slice none 0 0] (0, 0) _ rfl B5 Try.underlying28 rfl (by kernel_rfl)) rfl) rfl ⟨BegIs.err (.inr (.inl ⟨HOK.out, by rw [HE.out]; exact HC0.out, HE.out.symm, rfl, rfl⟩)), T5⟩
  · have HNOK := Lib.hid hno
    clear hno
    go_wp2
    have f9 := (Z1).free
    have B5 : BoxOf _ (w.heap.size + 4) #[.slice none 0 0, .slice none 0 0] 28 := mbox_self (mbox_self Z1 0 (.slice none 0 0)) 1 (.slice none 0 0)
    have T5 := Below.setCell (p := ⟨w.heap.size + 4, 1, none⟩) (Below.setCell (p := ⟨w.heap.size + 4, 0, none⟩) t1 (show w.heap.size ≤ w.heap.size + 4 by omega) (.slice none 0 0)) (show w.heap.size ≤ w.heap.size + 4 by omega) (.slice none 0 0)
    exact bodyPost_ret (v := .tuple #[.agg #[.slice none 0 0, .slice none 0 0], .int .i64 (8)]) (Eq.trans (results_row2 (P := Try.prog) (fn := Try.f24) (p := 8) (u := 9) (ty := 28) rfl _ _ (w.heap.size + 4) 28 #[.slice none 0 0, .slice none 0 0] (0, 0) _ rfl B5 Try.underlying28 rfl (by kernel_rfl)) rfl) rfl ⟨BegIs.err (.inl ⟨HNOK.out, rfl, rfl, rfl⟩), T5⟩
end Go.Proofs.Ytclbihcggjjgaaa
/- Layer 30 (model): the program: whether two plain arrays are the same. -/
namespace Go.Proofs.Ytclbihcggjjgaaa
open Go Go.RowKit
set_option linter.unusedSimpArgs false
set_option linter.unusedVariables false

theorem cell_lt {w : World} {b o : Nat} {v : Value} (h : w.cell? ⟨b, o, none⟩ = some v) : b < w.heap.size := by
  rcases Nat.lt_or_ge b w.heap.size with h1 | h1
  · exact h1
  · have h2 : w.heap[b]? = none := Array.getElem?_eq_none h1
    unfold World.cell? at h
    simp [h2] at h
end Go.Proofs.Ytclbihcggjjgaaa
/- Layer 30 (model): the statements' own plain array, and what a crash may leave of it. -/
namespace Go.Proofs.Ytclbihcggjjgaaa
open Go Go.RowKit
set_option linter.unusedSimpArgs false
set_option linter.unusedVariables false

theorem two_ok : cfgTwo.Ok := by decide
theorem nulls_vals (n : Nat) : ∀ i, ValOk (nulls n) i := fun i h => by
  have e : (nulls n)[i] = [zeros] := List.getElem_replicate _
  rw [e]
  refine ⟨by simp, by simp, fun k hk => ?_⟩
  have hk0 : k = 0 := by have : k < 1 := hk; omega
  subst hk0
  rfl
def begGo : GoTy.T := newGo 1 2 0 1 (fullL 1) (nulls 4)
theorem two_plain0 : PlainOk cfgTwo (nulls 4) [] := ⟨two_ok, by decide, by simp, nulls_vals 4, fun i h => absurd h (Nat.not_lt_zero _)⟩
set_option maxRecDepth 100000 in
theorem beg_ask : askCode cfgTwo (((2 : UInt8).toNat : Nat) : Int) 0 1 (fullL 1).length = 0 := by
  unfold askCode
  rw [if_pos two_ok, if_pos (.inl ⟨by decide, by decide, by decide, by decide, by decide⟩), if_pos (by decide)]
theorem two_plain1 : PlainOk cfgTwo (nulls 4) [begGo] := ⟨two_ok, by decide, by simp, nulls_vals 4, fun i h => by
  have h0 : i = 0 := by have : i < 1 := h; omega
  subst h0
  refine ⟨⟨?_, ?_, ?_⟩, fun _ h => absurd h (by decide)⟩
  · show (1 : Int) ≤ 1; decide
  · exact beg_ask
  · show MarksOk (((2 : UInt8).toNat : Nat) : Int) (mkOf 2 (nulls 4)) (nulls 4)
    unfold MarksOk
    rw [if_neg (by decide)]
    rfl⟩
theorem beg_rel {v : Int} {zs : List (List (List UInt8))} {hs : List GoTy.T} (h : BegRel cfgTwo (nulls 4) [] 1 2 0 1 (fullL 1) v zs hs) : v = 0 ∧ zs = nulls 4 ∧ hs = [begGo] :=
  h.one (.inr (.inr (.inr (.inr ⟨two_plain0, beg_ask, ⟨by decide, fun ⟨i, hi, _⟩ => absurd hi (Nat.not_lt_zero _)⟩, by decide, rfl, rfl, rfl⟩))))
theorem new_rel {v : Int} {zs : List (List (List UInt8))} (h : NewRel cfgTwo v zs) : v = 0 ∧ zs = nulls 4 := h.one (.inr ⟨two_ok, rfl, by rfl⟩)
set_option maxRecDepth 100000 in
theorem left_1 : LeftP (nulls 4) [begGo] 0 (fullL 1) := .inr ⟨0, by simp, by decide⟩
set_option maxRecDepth 100000 in
theorem left_0 : LeftP (nulls 4) [begGo] 0 (fullL 0) := .inl ⟨by decide, 0, by decide, by decide⟩
set_option maxRecDepth 100000 in
theorem left_2 : ¬ LeftP (nulls 4) [begGo] 0 (fullL 2) := by
  rintro (⟨h, i, hi, h1⟩ | ⟨i, hi, h1⟩)
  · have hi0 : i = 0 := by have : i < 1 := hi; omega
    subst hi0
    have h2 : eqBs (fullL 2) zeros = true := h1
    exact absurd h2 (by decide)
  · have hi0 : i = 0 := by have : i < 1 := hi; omega
    subst hi0
    have h2 : hitB 0 (fullL 2) begGo = true := h1
    exact absurd h2 (by decide)
def BegunP (base : Nat) (u : Value) (e : Ending) (w : World) : Prop :=
  ∃ (A : Option Addr) (c : Nat) (B : Option Addr) (d : Nat), e = .returned (.tuple #[.agg #[.slice A 4 c, .slice B 1 d], u]) ∧ RdIn w (NewB base w) (.sl (.sl (.sl .byte))) (nulls 4) [.slice A 4 c] ∧ RdIn w (NewB base w) (.sl GoTy) [begGo] [.slice B 1 d]
theorem begin_two (A : Option Addr) (c g : Nat) (w : World) (hy : RdIn w (fun _ => True) (.sl (.sl (.sl .byte))) (nulls 4) [.slice A 4 c]) (hd : RdIn w (fun _ => True) (.sl .byte) (fullL 1) [.slice (some ⟨g, 0, none⟩) 128 128]) :
    Calls Try.prog 24 #[cfgTwo.val, .agg #[.slice A 4 c, .slice none 0 0], .int .i64 1, .agg #[.int .u8 2, .int .i64 0, .int .i64 1, .slice (some ⟨g, 0, none⟩) 128 128]] w fun e w' => BegunP w.heap.size (.int .i64 0) e w' ∧ Below w.heap.size w w' := by
  refine Calls.mono (sbegin_any (fun _ => True) cfgTwo (nulls 4) [] A c none 0 1 (by decide) 2 0 1 (some ⟨g, 0, none⟩) 128 (fullL 1) w hy (rdin_nilg _ _) hd) ?_
  rintro e w' ⟨⟨v, zs, hs, A', c', B', d', rfl, hr, h1, h2⟩, b⟩
  obtain ⟨rfl, rfl, rfl⟩ := beg_rel hr
  exact ⟨⟨A', c', B', d', rfl, h1, h2⟩, b⟩
theorem new_two (w : World) : Calls Try.prog 29 #[cfgTwo.val] w fun e w' => (∃ A c, e = .returned (.tuple #[.agg #[.slice A 4 c, .slice none 0 0], .int .i64 0]) ∧ RdIn w' (NewB w.heap.size w') (.sl (.sl (.sl .byte))) (nulls 4) [.slice A 4 c]) ∧ Below w.heap.size w w' := by
  refine Calls.mono (snew_any cfgTwo w) ?_
  rintro e w' ⟨⟨v, zs, A', c', rfl, hr, h1⟩, b⟩
  obtain ⟨rfl, rfl⟩ := new_rel hr
  exact ⟨⟨A', c', rfl, h1⟩, b⟩
set_option maxRecDepth 100000 in
set_option maxHeartbeats 2000000 in
theorem begun_any (w : World) : Calls Try.prog 22 #[] w fun e w' => BegunP w.heap.size (.bool true) e w' ∧ Below w.heap.size w w' := by
  have Z0 := BoxOf.new w #[.slice none 0 0, .slice none 0 0] 28
  have t0 := Ext.alloc (Below.refl w.heap.size w) (.cells #[.slice none 0 0, .slice none 0 0] 28)
  go_enter Try.func22, Try.ntmps22
  go_upto_region 1 with fail
  generalize w.alloc (.cells #[.slice none 0 0, .slice none 0 0] 28) = W at *
  go_wp2_with fail
  refine (two_any _).mono ?_
  rintro e w1 ⟨rfl, b1⟩
  have Z1 := Z0.next b1
  have t1 := Ext.trans t0 b1
  clear Z0 t0 b1
  go_wp2_with fail
  refine (new_two _).mono ?_
  rintro e w2 ⟨⟨Ay, cy, rfl, ry⟩, b2⟩
  have Z2 := Z1.next b2
  have t2 := Ext.trans t1 b2
  have hl2 := t2.size
  have hz2 := Z2.lt
  have hl1 := t1.size
  have b3 := Ext.alloc (Below.refl w2.heap.size w2) (.cells #[.slice Ay 4 cy, .slice none 0 0] 28)
  have P3 := BoxOf.new w2 #[.slice Ay 4 cy, .slice none 0 0] 28
  have Z3 := Z2.next b3
  have t3 := Ext.trans t2 b3
  have HNY := Lib.hid ry
  have HL3 := Lib.hid hz2
  clear ry Z1 t1 b2 Z2 t2 hl1
  go_upto_region 2 with fail
  have HLE : Hid (w2.heap.size ≤ (w2.alloc (.cells #[.slice Ay 4 cy, .slice none 0 0] 28)).heap.size) := b3.size
  have HLE2 : Hid (w2.heap.size < (w2.alloc (.cells #[.slice Ay 4 cy, .slice none 0 0] 28)).heap.size) := P3.lt
  generalize w2.alloc (.cells #[.slice Ay 4 cy, .slice none 0 0] 28) = w3 at *
  have bb : Below w3.heap.size w3 w3.drew := Ext.drew (Below.refl _ _)
  refine wp_region_held_drew (S := fun w' => Below w2.heap.size w3 w') (by kernel_rfl) (bb.mono HLE.out) (fun hS => ?_)
  generalize w3.drew = wd at *
  refine wpAnyH_ready (rs := [0, 1]) (by kernel_rfl) (by simp) ?_
  refine AllReadyH.cons rfl (fun K hK => ?_) (AllReadyH.cons rfl (fun K hK => ?_) AllReadyH.nil)
  · rw [if_pos (by rfl)]
    go_simp
    refine (two_any _).mono ?_
    rintro e v3 ⟨rfl, k3⟩
    have bb' := Ext.trans bb k3
    refine hK.out _ _ (bb'.mono HLE.out) (fun hS' => ?_)
    clear hK K hS bb
    have hS := hS'
    have bb := bb'
    clear hS' bb'
    try simp only [Act.put, List.getElem_toArray, List.getElem_cons_zero, List.getElem_cons_succ, List.setIfInBounds_toArray, List.set_cons_zero, List.set_cons_succ]
    clear k3
    refine wpAnyH_ready (rs := [1, 2]) (by kernel_rfl) (by simp) ?_
    refine AllReadyH.cons rfl (fun K hK => ?_) (AllReadyH.cons rfl (fun K hK => ?_) AllReadyH.nil)
    · rw [if_pos (by rfl)]
      have yQ := (P3.next bb).cell
      go_simp
      refine hK.out _ _ (bb.mono HLE.out) (fun hS' => ?_)
      clear yQ hK K hS
      have hS := hS'
      clear hS'
      try simp only [Act.put, List.getElem_toArray, List.getElem_cons_zero, List.getElem_cons_succ, List.setIfInBounds_toArray, List.set_cons_zero, List.set_cons_succ]
      refine wpAnyH_ready (rs := [2]) (by kernel_rfl) (by simp) ?_
      refine AllReadyH.cons rfl (fun K hK => ?_) AllReadyH.nil
      rw [if_pos (by rfl)]
      go_simp
      refine (write_any 1 _).mono ?_
      rintro e v4 ⟨⟨g4, rfl, r4⟩, k4⟩
      have HD4 := Lib.hid (r4.mono (S' := fun _ => True) fun _ _ => trivial)
      have bb' := Ext.trans bb k4
      refine hK.out _ _ (bb'.mono HLE.out) (fun hS' => ?_)
      clear hK K hS bb
      have hS := hS'
      have bb := bb'
      clear hS' bb'
      try simp only [Act.put, List.getElem_toArray, List.getElem_cons_zero, List.getElem_cons_succ, List.setIfInBounds_toArray, List.set_cons_zero, List.set_cons_succ]
      clear k4 r4
      refine wpAnyH_ready (rs := [3]) (by kernel_rfl) (by simp) ?_
      refine AllReadyH.cons rfl (fun K hK => ?_) AllReadyH.nil
      rw [if_pos (by rfl)]
      go_simp
      refine (begin_two Ay cy g4 _ ((HNY.out.below (Ext.trans b3 bb)).mono fun _ _ => trivial) HD4.out).mono ?_
      rintro e v5 ⟨⟨A5, c5, B5, d5, rfl, ry5, rg5⟩, k5⟩
      have hv4 := bb.size
      have HR5 := Lib.hid (And.intro ry5 (And.intro rg5 (Nat.le_trans HLE2.out hv4)))
      clear ry5 rg5 hv4
      have bb' := Ext.trans bb k5
      refine hK.out _ _ (bb'.mono HLE.out) (fun hS' => ?_)
      clear hK K hS bb
      have hS := hS'
      have bb := bb'
      clear hS' bb'
      try simp only [Act.put, List.getElem_toArray, List.getElem_cons_zero, List.getElem_cons_succ, List.setIfInBounds_toArray, List.set_cons_zero, List.set_cons_succ]
      clear k5
      refine wpAnyH_take (i := 4) (oi := _) (v := ?_) rfl (by kernel_rfl) (by kernel_rfl) (by kernel_rfl) (fun _ _ _ h => h) (Or.inl ⟨by rfl, ?_⟩) hS ?_
      rotate_left
      · (intro w hSw; (try dsimp only at hSw); go_simp; (try with_reducible rfl))
      rotate_left
      simp only [Act.put, List.getElem_toArray, List.getElem_cons_zero, List.getElem_cons_succ, List.setIfInBounds_toArray, List.set_cons_zero, List.set_cons_succ]
      refine wpAnyH_take (i := 5) (oi := _) (v := ?_) rfl (by kernel_rfl) (by kernel_rfl) (by kernel_rfl) (fun _ _ _ h => h) (Or.inl ⟨by rfl, ?_⟩) hS ?_
      rotate_left
      · (intro w hSw; (try dsimp only at hSw); go_simp; (try with_reducible rfl))
      rotate_left
      simp only [Act.put, List.getElem_toArray, List.getElem_cons_zero, List.getElem_cons_succ, List.setIfInBounds_toArray, List.set_cons_zero, List.set_cons_succ]
      refine wpAnyH_take (i := 6) (oi := _) (v := ?_) rfl (by kernel_rfl) (by kernel_rfl) (by kernel_rfl) (fun _ _ _ h => h) (Or.inl ⟨by rfl, ?_⟩) hS ?_
      rotate_left
      · (intro w hSw; (try dsimp only at hSw); go_simp; (try with_reducible rfl))
      rotate_left
      simp only [Act.put, List.getElem_toArray, List.getElem_cons_zero, List.getElem_cons_succ, List.setIfInBounds_toArray, List.set_cons_zero, List.set_cons_succ]
      refine wpAnyH_ready (rs := [7]) (by kernel_rfl) (by simp) ?_
      refine AllReadyH.cons rfl (fun K hK => ?_) AllReadyH.nil
      rw [if_pos (by rfl)]
      have PV := P3.next bb
      have ZV := Z3.next bb
      have tV := Ext.trans t3 bb
      have pv := PV.cell
      have pf := PV.free
      have hlo3 := HL3.out
      go_simp
      clear pv pf
      have PW : BoxOf _ w2.heap.size #[.slice A5 4 c5, .slice B5 1 d5] 28 := mbox_self (mbox_self PV 0 (.slice A5 4 c5)) 1 (.slice B5 1 d5)
      have ZW := mbox_else (mbox_else ZV (show w.heap.size ≠ w2.heap.size by omega) 0 (.slice A5 4 c5)) (show w.heap.size ≠ w2.heap.size by omega) 1 (.slice B5 1 d5)
      have tW := Below.setCell (p := ⟨w2.heap.size, 1, none⟩) (Below.setCell (p := ⟨w2.heap.size, 0, none⟩) tV (show w.heap.size ≤ w2.heap.size by omega) (.slice A5 4 c5)) (show w.heap.size ≤ w2.heap.size by omega) (.slice B5 1 d5)
      have sW := Below.setCell (p := ⟨w2.heap.size, 1, none⟩) (Below.setCell (p := ⟨w2.heap.size, 0, none⟩) (bb.mono HLE.out) (Nat.le_refl _) (.slice A5 4 c5)) (Nat.le_refl _) (.slice B5 1 d5)
      have rW := ((HR5.out.1.setElse (k := w2.heap.size) (fun b hb => by have := hb.1; have := HR5.out.2.2; omega) 0 (.slice A5 4 c5)).setElse (k := w2.heap.size) (fun b hb => by have := hb.1; have := HR5.out.2.2; omega) 1 (.slice B5 1 d5)).mono (S' := NewB (w.heap.size + 1) ((v5.setCell ⟨w2.heap.size, 0, none⟩ (.slice A5 4 c5)).setCell ⟨w2.heap.size, 1, none⟩ (.slice B5 1 d5))) (fun b hb => ⟨by have := hb.1; have := HR5.out.2.2; omega, by simp only [msize]; exact hb.2.1, (hb.2.2.set _ _).set _ _⟩)
      have uW := ((HR5.out.2.1.setElse (k := w2.heap.size) (fun b hb => by have := hb.1; have := HR5.out.2.2; omega) 0 (.slice A5 4 c5)).setElse (k := w2.heap.size) (fun b hb => by have := hb.1; have := HR5.out.2.2; omega) 1 (.slice B5 1 d5)).mono (S' := NewB (w.heap.size + 1) ((v5.setCell ⟨w2.heap.size, 0, none⟩ (.slice A5 4 c5)).setCell ⟨w2.heap.size, 1, none⟩ (.slice B5 1 d5))) (fun b hb => ⟨by have := hb.1; have := HR5.out.2.2; omega, by simp only [msize]; exact hb.2.1, (hb.2.2.set _ _).set _ _⟩)
      refine hK.out _ _ sW (fun hS' => ?_)
      clear hK K hS sW bb
      have hS := hS'
      clear hS'
      try simp only [Act.put, List.getElem_toArray, List.getElem_cons_zero, List.getElem_cons_succ, List.setIfInBounds_toArray, List.set_cons_zero, List.set_cons_succ]
      refine wpAnyH_take (i := 8) (oi := _) (v := ?_) rfl (by kernel_rfl) (by kernel_rfl) (by kernel_rfl) (fun _ _ _ h => h) (Or.inl ⟨by rfl, ?_⟩) hS ?_
      rotate_left
      · (intro w hSw; (try dsimp only at hSw); go_simp; (try with_reducible rfl))
      rotate_left
      simp only [Act.put, List.getElem_toArray, List.getElem_cons_zero, List.getElem_cons_succ, List.setIfInBounds_toArray, List.set_cons_zero, List.set_cons_succ]
      refine wpAnyH_done (by kernel_rfl) ?_ _
      clear hS PV ZV tV HR5 HD4
      generalize (v5.setCell ⟨w2.heap.size, 0, none⟩ (.slice A5 4 c5)).setCell ⟨w2.heap.size, 1, none⟩ (.slice B5 1 d5) = w9 at *
      have pw := PW.cell
      have zw := ZW.cell
      have zf := ZW.free
      have HRW := Lib.hid (And.intro rW uW)
      clear rW uW
      go_wp2
      have B5' : BoxOf _ w.heap.size #[.slice A5 4 c5, .slice B5 1 d5] 28 := mbox_self (mbox_self ZW 0 (.slice A5 4 c5)) 1 (.slice B5 1 d5)
      have T5 := Below.setCell (p := ⟨w.heap.size, 1, none⟩) (Below.setCell (p := ⟨w.heap.size, 0, none⟩) tW (Nat.le_refl _) (.slice A5 4 c5)) (Nat.le_refl _) (.slice B5 1 d5)
      exact bodyPost_ret (v := .tuple #[.agg #[.slice A5 4 c5, .slice B5 1 d5], .bool true]) (Eq.trans (results_row2 (P := Try.prog) (fn := Try.f22) (p := 0) (u := 1) (ty := 28) rfl _ _ w.heap.size 28 #[.slice A5 4 c5, .slice B5 1 d5] (0, 0) _ rfl B5' Try.underlying28 rfl (by kernel_rfl)) rfl) rfl ⟨⟨A5, c5, B5, d5, rfl, ((HRW.out.1.setElse (k := w.heap.size) (fun b hb => by have := hb.1; omega) 0 (.slice A5 4 c5)).setElse (k := w.heap.size) (fun b hb => by have := hb.1; omega) 1 (.slice B5 1 d5)).mono (S' := NewB w.heap.size ((w9.setCell ⟨w.heap.size, 0, none⟩ (.slice A5 4 c5)).setCell ⟨w.heap.size, 1, none⟩ (.slice B5 1 d5))) (fun b hb => ⟨by have := hb.1; omega, by simp only [msize]; exact hb.2.1, (hb.2.2.set _ _).set _ _⟩), ((HRW.out.2.setElse (k := w.heap.size) (fun b hb => by have := hb.1; omega) 0 (.slice A5 4 c5)).setElse (k := w.heap.size) (fun b hb => by have := hb.1; omega) 1 (.slice B5 1 d5)).mono (S' := NewB w.heap.size ((w9.setCell ⟨w.heap.size, 0, none⟩ (.slice A5 4 c5)).setCell ⟨w.heap.size, 1, none⟩ (.slice B5 1 d5))) (fun b hb => ⟨by have := hb.1; omega, by simp only [msize]; exact hb.2.1, (hb.2.2.set _ _).set _ _⟩)⟩, T5⟩
    · rw [if_pos (by rfl)]
      go_simp
      refine (write_any 1 _).mono ?_
      rintro e v4 ⟨⟨g4, rfl, r4⟩, k4⟩
      have HD4 := Lib.hid (r4.mono (S' := fun _ => True) fun _ _ => trivial)
      have bb' := Ext.trans bb k4
      refine hK.out _ _ (bb'.mono HLE.out) (fun hS' => ?_)
      clear hK K hS bb
      have hS := hS'
      have bb := bb'
      clear hS' bb'
      try simp only [Act.put, List.getElem_toArray, List.getElem_cons_zero, List.getElem_cons_succ, List.setIfInBounds_toArray, List.set_cons_zero, List.set_cons_succ]
      clear k4 r4
      refine wpAnyH_ready (rs := [1]) (by kernel_rfl) (by simp) ?_
      refine AllReadyH.cons rfl (fun K hK => ?_) AllReadyH.nil
      rw [if_pos (by rfl)]
      have yQ := (P3.next bb).cell
      go_simp
      refine hK.out _ _ (bb.mono HLE.out) (fun hS' => ?_)
      clear yQ hK K hS
      have hS := hS'
      clear hS'
      try simp only [Act.put, List.getElem_toArray, List.getElem_cons_zero, List.getElem_cons_succ, List.setIfInBounds_toArray, List.set_cons_zero, List.set_cons_succ]
      refine wpAnyH_ready (rs := [3]) (by kernel_rfl) (by simp) ?_
      refine AllReadyH.cons rfl (fun K hK => ?_) AllReadyH.nil
      rw [if_pos (by rfl)]
      go_simp
      refine (begin_two Ay cy g4 _ ((HNY.out.below (Ext.trans b3 bb)).mono fun _ _ => trivial) HD4.out).mono ?_
      rintro e v5 ⟨⟨A5, c5, B5, d5, rfl, ry5, rg5⟩, k5⟩
      have hv4 := bb.size
      have HR5 := Lib.hid (And.intro ry5 (And.intro rg5 (Nat.le_trans HLE2.out hv4)))
      clear ry5 rg5 hv4
      have bb' := Ext.trans bb k5
      refine hK.out _ _ (bb'.mono HLE.out) (fun hS' => ?_)
      clear hK K hS bb
      have hS := hS'
      have bb := bb'
      clear hS' bb'
      try simp only [Act.put, List.getElem_toArray, List.getElem_cons_zero, List.getElem_cons_succ, List.setIfInBounds_toArray, List.set_cons_zero, List.set_cons_succ]
      clear k5
      refine wpAnyH_take (i := 4) (oi := _) (v := ?_) rfl (by kernel_rfl) (by kernel_rfl) (by kernel_rfl) (fun _ _ _ h => h) (Or.inl ⟨by rfl, ?_⟩) hS ?_
      rotate_left
      · (intro w hSw; (try dsimp only at hSw); go_simp; (try with_reducible rfl))
      rotate_left
      simp only [Act.put, List.getElem_toArray, List.getElem_cons_zero, List.getElem_cons_succ, List.setIfInBounds_toArray, List.set_cons_zero, List.set_cons_succ]
      refine wpAnyH_take (i := 5) (oi := _) (v := ?_) rfl (by kernel_rfl) (by kernel_rfl) (by kernel_rfl) (fun _ _ _ h => h) (Or.inl ⟨by rfl, ?_⟩) hS ?_
      rotate_left
      · (intro w hSw; (try dsimp only at hSw); go_simp; (try with_reducible rfl))
      rotate_left
      simp only [Act.put, List.getElem_toArray, List.getElem_cons_zero, List.getElem_cons_succ, List.setIfInBounds_toArray, List.set_cons_zero, List.set_cons_succ]
      refine wpAnyH_take (i := 6) (oi := _) (v := ?_) rfl (by kernel_rfl) (by kernel_rfl) (by kernel_rfl) (fun _ _ _ h => h) (Or.inl ⟨by rfl, ?_⟩) hS ?_
      rotate_left
      · (intro w hSw; (try dsimp only at hSw); go_simp; (try with_reducible rfl))
      rotate_left
      simp only [Act.put, List.getElem_toArray, List.getElem_cons_zero, List.getElem_cons_succ, List.setIfInBounds_toArray, List.set_cons_zero, List.set_cons_succ]
      refine wpAnyH_ready (rs := [7]) (by kernel_rfl) (by simp) ?_
      refine AllReadyH.cons rfl (fun K hK => ?_) AllReadyH.nil
      rw [if_pos (by rfl)]
      have PV := P3.next bb
      have ZV := Z3.next bb
      have tV := Ext.trans t3 bb
      have pv := PV.cell
      have pf := PV.free
      have hlo3 := HL3.out
      go_simp
      clear pv pf
      have PW : BoxOf _ w2.heap.size #[.slice A5 4 c5, .slice B5 1 d5] 28 := mbox_self (mbox_self PV 0 (.slice A5 4 c5)) 1 (.slice B5 1 d5)
      have ZW := mbox_else (mbox_else ZV (show w.heap.size ≠ w2.heap.size by omega) 0 (.slice A5 4 c5)) (show w.heap.size ≠ w2.heap.size by omega) 1 (.slice B5 1 d5)
      have tW := Below.setCell (p := ⟨w2.heap.size, 1, none⟩) (Below.setCell (p := ⟨w2.heap.size, 0, none⟩) tV (show w.heap.size ≤ w2.heap.size by omega) (.slice A5 4 c5)) (show w.heap.size ≤ w2.heap.size by omega) (.slice B5 1 d5)
      have sW := Below.setCell (p := ⟨w2.heap.size, 1, none⟩) (Below.setCell (p := ⟨w2.heap.size, 0, none⟩) (bb.mono HLE.out) (Nat.le_refl _) (.slice A5 4 c5)) (Nat.le_refl _) (.slice B5 1 d5)
      have rW := ((HR5.out.1.setElse (k := w2.heap.size) (fun b hb => by have := hb.1; have := HR5.out.2.2; omega) 0 (.slice A5 4 c5)).setElse (k := w2.heap.size) (fun b hb => by have := hb.1; have := HR5.out.2.2; omega) 1 (.slice B5 1 d5)).mono (S' := NewB (w.heap.size + 1) ((v5.setCell ⟨w2.heap.size, 0, none⟩ (.slice A5 4 c5)).setCell ⟨w2.heap.size, 1, none⟩ (.slice B5 1 d5))) (fun b hb => ⟨by have := hb.1; have := HR5.out.2.2; omega, by simp only [msize]; exact hb.2.1, (hb.2.2.set _ _).set _ _⟩)
      have uW := ((HR5.out.2.1.setElse (k := w2.heap.size) (fun b hb => by have := hb.1; have := HR5.out.2.2; omega) 0 (.slice A5 4 c5)).setElse (k := w2.heap.size) (fun b hb => by have := hb.1; have := HR5.out.2.2; omega) 1 (.slice B5 1 d5)).mono (S' := NewB (w.heap.size + 1) ((v5.setCell ⟨w2.heap.size, 0, none⟩ (.slice A5 4 c5)).setCell ⟨w2.heap.size, 1, none⟩ (.slice B5 1 d5))) (fun b hb => ⟨by have := hb.1; have := HR5.out.2.2; omega, by simp only [msize]; exact hb.2.1, (hb.2.2.set _ _).set _ _⟩)
      refine hK.out _ _ sW (fun hS' => ?_)
      clear hK K hS sW bb
      have hS := hS'
      clear hS'
      try simp only [Act.put, List.getElem_toArray, List.getElem_cons_zero, List.getElem_cons_succ, List.setIfInBounds_toArray, List.set_cons_zero, List.set_cons_succ]
      refine wpAnyH_take (i := 8) (oi := _) (v := ?_) rfl (by kernel_rfl) (by kernel_rfl) (by kernel_rfl) (fun _ _ _ h => h) (Or.inl ⟨by rfl, ?_⟩) hS ?_
      rotate_left
      · (intro w hSw; (try dsimp only at hSw); go_simp; (try with_reducible rfl))
      rotate_left
      simp only [Act.put, List.getElem_toArray, List.getElem_cons_zero, List.getElem_cons_succ, List.setIfInBounds_toArray, List.set_cons_zero, List.set_cons_succ]
      refine wpAnyH_done (by kernel_rfl) ?_ _
      clear hS PV ZV tV HR5 HD4
      generalize (v5.setCell ⟨w2.heap.size, 0, none⟩ (.slice A5 4 c5)).setCell ⟨w2.heap.size, 1, none⟩ (.slice B5 1 d5) = w9 at *
      have pw := PW.cell
      have zw := ZW.cell
      have zf := ZW.free
      have HRW := Lib.hid (And.intro rW uW)
      clear rW uW
      go_wp2
      have B5' : BoxOf _ w.heap.size #[.slice A5 4 c5, .slice B5 1 d5] 28 := mbox_self (mbox_self ZW 0 (.slice A5 4 c5)) 1 (.slice B5 1 d5)
      have T5 := Below.setCell (p := ⟨w.heap.size, 1, none⟩) (Below.setCell (p := ⟨w.heap.size, 0, none⟩) tW (Nat.le_refl _) (.slice A5 4 c5)) (Nat.le_refl _) (.slice B5 1 d5)
      exact bodyPost_ret (v := .tuple #[.agg #[.slice A5 4 c5, .slice B5 1 d5], .bool true]) (Eq.trans (results_row2 (P := Try.prog) (fn := Try.f22) (p := 0) (u := 1) (ty := 28) rfl _ _ w.heap.size 28 #[.slice A5 4 c5, .slice B5 1 d5] (0, 0) _ rfl B5' Try.underlying28 rfl (by kernel_rfl)) rfl) rfl ⟨⟨A5, c5, B5, d5, rfl, ((HRW.out.1.setElse (k := w.heap.size) (fun b hb => by have := hb.1; omega) 0 (.slice A5 4 c5)).setElse (k := w.heap.size) (fun b hb => by have := hb.1; omega) 1 (.slice B5 1 d5)).mono (S' := NewB w.heap.size ((w9.setCell ⟨w.heap.size, 0, none⟩ (.slice A5 4 c5)).setCell ⟨w.heap.size, 1, none⟩ (.slice B5 1 d5))) (fun b hb => ⟨by have := hb.1; omega, by simp only [msize]; exact hb.2.1, (hb.2.2.set _ _).set _ _⟩), ((HRW.out.2.setElse (k := w.heap.size) (fun b hb => by have := hb.1; omega) 0 (.slice A5 4 c5)).setElse (k := w.heap.size) (fun b hb => by have := hb.1; omega) 1 (.slice B5 1 d5)).mono (S' := NewB w.heap.size ((w9.setCell ⟨w.heap.size, 0, none⟩ (.slice A5 4 c5)).setCell ⟨w.heap.size, 1, none⟩ (.slice B5 1 d5))) (fun b hb => ⟨by have := hb.1; omega, by simp only [msize]; exact hb.2.1, (hb.2.2.set _ _).set _ _⟩)⟩, T5⟩
  · rw [if_pos (by rfl)]
    have yQ := (P3.next bb).cell
    go_simp
    refine hK.out _ _ (bb.mono HLE.out) (fun hS' => ?_)
    clear yQ hK K hS
    have hS := hS'
    clear hS'
    try simp only [Act.put, List.getElem_toArray, List.getElem_cons_zero, List.getElem_cons_succ, List.setIfInBounds_toArray, List.set_cons_zero, List.set_cons_succ]
    refine wpAnyH_ready (rs := [0]) (by kernel_rfl) (by simp) ?_
    refine AllReadyH.cons rfl (fun K hK => ?_) AllReadyH.nil
    rw [if_pos (by rfl)]
    go_simp
    refine (two_any _).mono ?_
    rintro e v3 ⟨rfl, k3⟩
    have bb' := Ext.trans bb k3
    refine hK.out _ _ (bb'.mono HLE.out) (fun hS' => ?_)
    clear hK K hS bb
    have hS := hS'
    have bb := bb'
    clear hS' bb'
    try simp only [Act.put, List.getElem_toArray, List.getElem_cons_zero, List.getElem_cons_succ, List.setIfInBounds_toArray, List.set_cons_zero, List.set_cons_succ]
    clear k3
    refine wpAnyH_ready (rs := [2]) (by kernel_rfl) (by simp) ?_
    refine AllReadyH.cons rfl (fun K hK => ?_) AllReadyH.nil
    rw [if_pos (by rfl)]
    go_simp
    refine (write_any 1 _).mono ?_
    rintro e v4 ⟨⟨g4, rfl, r4⟩, k4⟩
    have HD4 := Lib.hid (r4.mono (S' := fun _ => True) fun _ _ => trivial)
    have bb' := Ext.trans bb k4
    refine hK.out _ _ (bb'.mono HLE.out) (fun hS' => ?_)
    clear hK K hS bb
    have hS := hS'
    have bb := bb'
    clear hS' bb'
    try simp only [Act.put, List.getElem_toArray, List.getElem_cons_zero, List.getElem_cons_succ, List.setIfInBounds_toArray, List.set_cons_zero, List.set_cons_succ]
    clear k4 r4
    refine wpAnyH_ready (rs := [3]) (by kernel_rfl) (by simp) ?_
    refine AllReadyH.cons rfl (fun K hK => ?_) AllReadyH.nil
    rw [if_pos (by rfl)]
    go_simp
    refine (begin_two Ay cy g4 _ ((HNY.out.below (Ext.trans b3 bb)).mono fun _ _ => trivial) HD4.out).mono ?_
    rintro e v5 ⟨⟨A5, c5, B5, d5, rfl, ry5, rg5⟩, k5⟩
    have hv4 := bb.size
    have HR5 := Lib.hid (And.intro ry5 (And.intro rg5 (Nat.le_trans HLE2.out hv4)))
    clear ry5 rg5 hv4
    have bb' := Ext.trans bb k5
    refine hK.out _ _ (bb'.mono HLE.out) (fun hS' => ?_)
    clear hK K hS bb
    have hS := hS'
    have bb := bb'
    clear hS' bb'
    try simp only [Act.put, List.getElem_toArray, List.getElem_cons_zero, List.getElem_cons_succ, List.setIfInBounds_toArray, List.set_cons_zero, List.set_cons_succ]
    clear k5
    refine wpAnyH_take (i := 4) (oi := _) (v := ?_) rfl (by kernel_rfl) (by kernel_rfl) (by kernel_rfl) (fun _ _ _ h => h) (Or.inl ⟨by rfl, ?_⟩) hS ?_
    rotate_left
    · (intro w hSw; (try dsimp only at hSw); go_simp; (try with_reducible rfl))
    rotate_left
    simp only [Act.put, List.getElem_toArray, List.getElem_cons_zero, List.getElem_cons_succ, List.setIfInBounds_toArray, List.set_cons_zero, List.set_cons_succ]
    refine wpAnyH_take (i := 5) (oi := _) (v := ?_) rfl (by kernel_rfl) (by kernel_rfl) (by kernel_rfl) (fun _ _ _ h => h) (Or.inl ⟨by rfl, ?_⟩) hS ?_
    rotate_left
    · (intro w hSw; (try dsimp only at hSw); go_simp; (try with_reducible rfl))
    rotate_left
    simp only [Act.put, List.getElem_toArray, List.getElem_cons_zero, List.getElem_cons_succ, List.setIfInBounds_toArray, List.set_cons_zero, List.set_cons_succ]
    refine wpAnyH_take (i := 6) (oi := _) (v := ?_) rfl (by kernel_rfl) (by kernel_rfl) (by kernel_rfl) (fun _ _ _ h => h) (Or.inl ⟨by rfl, ?_⟩) hS ?_
    rotate_left
    · (intro w hSw; (try dsimp only at hSw); go_simp; (try with_reducible rfl))
    rotate_left
    simp only [Act.put, List.getElem_toArray, List.getElem_cons_zero, List.getElem_cons_succ, List.setIfInBounds_toArray, List.set_cons_zero, List.set_cons_succ]
    refine wpAnyH_ready (rs := [7]) (by kernel_rfl) (by simp) ?_
    refine AllReadyH.cons rfl (fun K hK => ?_) AllReadyH.nil
    rw [if_pos (by rfl)]
    have PV := P3.next bb
    have ZV := Z3.next bb
    have tV := Ext.trans t3 bb
    have pv := PV.cell
    have pf := PV.free
    have hlo3 := HL3.out
    go_simp
    clear pv pf
    have PW : BoxOf _ w2.heap.size #[.slice A5 4 c5, .slice B5 1 d5] 28 := mbox_self (mbox_self PV 0 (.slice A5 4 c5)) 1 (.slice B5 1 d5)
    have ZW := mbox_else (mbox_else ZV (show w.heap.size ≠ w2.heap.size by omega) 0 (.slice A5 4 c5)) (show w.heap.size ≠ w2.heap.size by omega) 1 (.slice B5 1 d5)
    have tW := Below.setCell (p := ⟨w2.heap.size, 1, none⟩) (Below.setCell (p := ⟨w2.heap.size, 0, none⟩) tV (show w.heap.size ≤ w2.heap.size by omega) (.slice A5 4 c5)) (show w.heap.size ≤ w2.heap.size by omega) (.slice B5 1 d5)
    have sW := Below.setCell (p := ⟨w2.heap.size, 1, none⟩) (Below.setCell (p := ⟨w2.heap.size, 0, none⟩) (bb.mono HLE.out) (Nat.le_refl _) (.slice A5 4 c5)) (Nat.le_refl _) (.slice B5 1 d5)
    have rW := ((HR5.out.1.setElse (k := w2.heap.size) (fun b hb => by have := hb.1; have := HR5.out.2.2; omega) 0 (.slice A5 4 c5)).setElse (k := w2.heap.size) (fun b hb => by have := hb.1; have := HR5.out.2.2; omega) 1 (.slice B5 1 d5)).mono (S' := NewB (w.heap.size + 1) ((v5.setCell ⟨w2.heap.size, 0, none⟩ (.slice A5 4 c5)).setCell ⟨w2.heap.size, 1, none⟩ (.slice B5 1 d5))) (fun b hb => ⟨by have := hb.1; have := HR5.out.2.2; omega, by simp only [msize]; exact hb.2.1, (hb.2.2.set _ _).set _ _⟩)
    have uW := ((HR5.out.2.1.setElse (k := w2.heap.size) (fun b hb => by have := hb.1; have := HR5.out.2.2; omega) 0 (.slice A5 4 c5)).setElse (k := w2.heap.size) (fun b hb => by have := hb.1; have := HR5.out.2.2; omega) 1 (.slice B5 1 d5)).mono (S' := NewB (w.heap.size + 1) ((v5.setCell ⟨w2.heap.size, 0, none⟩ (.slice A5 4 c5)).setCell ⟨w2.heap.size, 1, none⟩ (.slice B5 1 d5))) (fun b hb => ⟨by have := hb.1; have := HR5.out.2.2; omega, by simp only [msize]; exact hb.2.1, (hb.2.2.set _ _).set _ _⟩)
    refine hK.out _ _ sW (fun hS' => ?_)
    clear hK K hS sW bb
    have hS := hS'
    clear hS'
    try simp only [Act.put, List.getElem_toArray, List.getElem_cons_zero, List.getElem_cons_succ, List.setIfInBounds_toArray, List.set_cons_zero, List.set_cons_succ]
    refine wpAnyH_take (i := 8) (oi := _) (v := ?_) rfl (by kernel_rfl) (by kernel_rfl) (by kernel_rfl) (fun _ _ _ h => h) (Or.inl ⟨by rfl, ?_⟩) hS ?_
    rotate_left
    · (intro w hSw; (try dsimp only at hSw); go_simp; (try with_reducible rfl))
    rotate_left
    simp only [Act.put, List.getElem_toArray, List.getElem_cons_zero, List.getElem_cons_succ, List.setIfInBounds_toArray, List.set_cons_zero, List.set_cons_succ]
    refine wpAnyH_done (by kernel_rfl) ?_ _
    clear hS PV ZV tV HR5 HD4
    generalize (v5.setCell ⟨w2.heap.size, 0, none⟩ (.slice A5 4 c5)).setCell ⟨w2.heap.size, 1, none⟩ (.slice B5 1 d5) = w9 at *
    have pw := PW.cell
    have zw := ZW.cell
    have zf := ZW.free
    have HRW := Lib.hid (And.intro rW uW)
    clear rW uW
    go_wp2
    have B5' : BoxOf _ w.heap.size #[.slice A5 4 c5, .slice B5 1 d5] 28 := mbox_self (mbox_self ZW 0 (.slice A5 4 c5)) 1 (.slice B5 1 d5)
    have T5 := Below.setCell (p := ⟨w.heap.size, 1, none⟩) (Below.setCell (p := ⟨w.heap.size, 0, none⟩) tW (Nat.le_refl _) (.slice A5 4 c5)) (Nat.le_refl _) (.slice B5 1 d5)
    exact bodyPost_ret (v := .tuple #[.agg #[.slice A5 4 c5, .slice B5 1 d5], .bool true]) (Eq.trans (results_row2 (P := Try.prog) (fn := Try.f22) (p := 0) (u := 1) (ty := 28) rfl _ _ w.heap.size 28 #[.slice A5 4 c5, .slice B5 1 d5] (0, 0) _ rfl B5' Try.underlying28 rfl (by kernel_rfl)) rfl) rfl ⟨⟨A5, c5, B5, d5, rfl, ((HRW.out.1.setElse (k := w.heap.size) (fun b hb => by have := hb.1; omega) 0 (.slice A5 4 c5)).setElse (k := w.heap.size) (fun b hb => by have := hb.1; omega) 1 (.slice B5 1 d5)).mono (S' := NewB w.heap.size ((w9.setCell ⟨w.heap.size, 0, none⟩ (.slice A5 4 c5)).setCell ⟨w.heap.size, 1, none⟩ (.slice B5 1 d5))) (fun b hb => ⟨by have := hb.1; omega, by simp only [msize]; exact hb.2.1, (hb.2.2.set _ _).set _ _⟩), ((HRW.out.2.setElse (k := w.heap.size) (fun b hb => by have := hb.1; omega) 0 (.slice A5 4 c5)).setElse (k := w.heap.size) (fun b hb => by have := hb.1; omega) 1 (.slice B5 1 d5)).mono (S' := NewB w.heap.size ((w9.setCell ⟨w.heap.size, 0, none⟩ (.slice A5 4 c5)).setCell ⟨w.heap.size, 1, none⟩ (.slice B5 1 d5))) (fun b hb => ⟨by have := hb.1; omega, by simp only [msize]; exact hb.2.1, (hb.2.2.set _ _).set _ _⟩)⟩, T5⟩
set_option maxRecDepth 100000 in
set_option maxHeartbeats 2000000 in
theorem maylaw_any (S : Nat → Prop) (ys : List (List (List UInt8))) (gs : List GoTy.T) (hp : PlainOk cfgTwo ys gs) (A : Option Addr) (ca : Nat) (B : Option Addr) (cb : Nat) (x : UInt8) (w : World) (hy : RdIn w S (.sl (.sl (.sl .byte))) ys [.slice A ys.length ca]) (hg : RdIn w S (.sl GoTy) gs [.slice B gs.length cb]) :
    Calls Try.prog 27 #[.agg #[.slice A ys.length ca, .slice B gs.length cb], .int .u8 (x.toNat : Int)] w fun e w' => YesNo (LeftP ys gs 0 (fullL x)) e ∧ Below w.heap.size w w' := by
  have P0 := BoxOf.new w #[.slice A ys.length ca, .slice B gs.length cb] 28
  have t0 := Ext.alloc (Below.refl w.heap.size w) (.cells #[.slice A ys.length ca, .slice B gs.length cb] 28)
  have HM : Hid (∀ (w' : World) (g : Nat), Below w.heap.size w w' → RdIn w' (fun _ => True) (.sl .byte) (fullL x) [.slice (some ⟨g, 0, none⟩) 128 128] → Calls Try.prog 11 #[cfgTwo.val, .agg #[.slice A ys.length ca, .slice B gs.length cb], .int .i64 0, .slice (some ⟨g, 0, none⟩) 128 128] w' fun e w'' => (∃ b, e = .returned (.tuple #[.bool b, .int .i64 0]) ∧ (b = true ↔ LeftP ys gs 0 (fullL x))) ∧ Below w'.heap.size w' w'') := fun w' g bb hd => by
    have hb : Bs w' (some ⟨g, 0, none⟩) (fullL x).length (fullL x) := RdIn.bytes_bs (c := 128) (A := some ⟨g, 0, none⟩) hd
    refine Calls.mono (smay_any S cfgTwo ys gs A ca B cb 0 (some ⟨g, 0, none⟩) 128 (fullL x) w' (hy.below bb) (hg.below bb) hb) ?_
    rintro e w'' ⟨⟨b, v, rfl, hr⟩, bb2⟩
    have hlen : (0 : Int) < (ys.length : Int) := by rw [hp.len]; decide
    rcases hr with ⟨h1, _⟩ | ⟨_, h2, _⟩ | ⟨_, _, h3, _⟩ | ⟨_, _, _, h4, rfl⟩
    · exact absurd hp h1
    · exact absurd ⟨Int.le_refl 0, hlen⟩ h2
    · exact absurd (fullL_len x) h3
    · exact ⟨⟨b, rfl, h4⟩, bb2⟩
  clear hy hg hp
  go_enter Try.func27, Try.ntmps27
  go_upto_region 1 with fail
  have HT0 := Lib.hid t0
  clear t0
  generalize w.alloc (.cells #[.slice A ys.length ca, .slice B gs.length cb] 28) = W at *
  have HS : Hid (∀ w', Below W.heap.size W w' → Below W.heap.size W w' ∧ (∀ o, w'.cell? ⟨w.heap.size, o, none⟩ = #[Value.slice A ys.length ca, Value.slice B gs.length cb].toList[o]?)) := fun w' b => ⟨b, (P0.next b).cell⟩
  refine wp_region_held_drew (S := fun w' => Below W.heap.size W w' ∧ (∀ o, w'.cell? ⟨w.heap.size, o, none⟩ = #[Value.slice A ys.length ca, Value.slice B gs.length cb].toList[o]?)) (by kernel_rfl) (HS.out _ (Ext.drew (Below.refl _ _))) (fun hS => ?_)
  refine wpAnyH_take (i := 1) (oi := _) (v := ?_) rfl (by kernel_rfl) (by kernel_rfl) (by kernel_rfl) (fun _ _ _ h => h) (Or.inl ⟨by rfl, ?_⟩) hS ?_
  rotate_left
  · (intro w hSw; (try dsimp only at hSw); go_simp; (try with_reducible rfl))
  rotate_left
  simp only [Act.put, List.getElem_toArray, List.getElem_cons_zero, List.getElem_cons_succ, List.setIfInBounds_toArray, List.set_cons_zero, List.set_cons_succ]
  refine wpAnyH_take (i := 2) (oi := _) (v := ?_) rfl (by kernel_rfl) (by kernel_rfl) (by kernel_rfl) (fun _ _ _ h => h) (Or.inl ⟨by rfl, ?_⟩) hS ?_
  rotate_left
  · (intro w hSw; (try dsimp only at hSw); go_simp; (try with_reducible rfl))
  rotate_left
  simp only [Act.put, List.getElem_toArray, List.getElem_cons_zero, List.getElem_cons_succ, List.setIfInBounds_toArray, List.set_cons_zero, List.set_cons_succ]
  refine wpAnyH_ready (rs := [0]) (by kernel_rfl) (by simp) ?_
  refine AllReadyH.cons rfl (fun K hK => ?_) AllReadyH.nil
  rw [if_pos (by rfl)]
  go_simp
  refine (two_any _).mono ?_
  rintro e v3 ⟨rfl, k3⟩
  refine hK.out _ _ (HS.out _ (Ext.trans hS.1 k3)) (fun hS' => ?_)
  clear hK K hS
  have hS := hS'
  clear hS'
  try simp only [Act.put, List.getElem_toArray, List.getElem_cons_zero, List.getElem_cons_succ, List.setIfInBounds_toArray, List.set_cons_zero, List.set_cons_succ]
  clear k3
  refine wpAnyH_ready (rs := [3]) (by kernel_rfl) (by simp) ?_
  refine AllReadyH.cons rfl (fun K hK => ?_) AllReadyH.nil
  rw [if_pos (by rfl)]
  go_simp
  refine (full_any x _).mono ?_
  rintro e v4 ⟨⟨g4, rfl, r4⟩, k4⟩
  have HD4 := Lib.hid (r4.mono (S' := fun _ => True) fun _ _ => trivial)
  refine hK.out _ _ (HS.out _ (Ext.trans hS.1 k4)) (fun hS' => ?_)
  clear hK K hS
  have hS := hS'
  clear hS'
  try simp only [Act.put, List.getElem_toArray, List.getElem_cons_zero, List.getElem_cons_succ, List.setIfInBounds_toArray, List.set_cons_zero, List.set_cons_succ]
  clear k4 r4
  refine wpAnyH_ready (rs := [4]) (by kernel_rfl) (by simp) ?_
  refine AllReadyH.cons rfl (fun K hK => ?_) AllReadyH.nil
  rw [if_pos (by rfl)]
  go_simp
  refine (HM.out _ g4 (Ext.trans HT0.out hS.1) HD4.out).mono ?_
  rintro e v5 ⟨⟨b, rfl, hb⟩, k5⟩
  have HB := Lib.hid hb
  refine hK.out _ _ (HS.out _ (Ext.trans hS.1 k5)) (fun hS' => ?_)
  clear hK K hS
  have hS := hS'
  clear hS'
  try simp only [Act.put, List.getElem_toArray, List.getElem_cons_zero, List.getElem_cons_succ, List.setIfInBounds_toArray, List.set_cons_zero, List.set_cons_succ]
  clear k5 hb
  refine wpAnyH_take (i := 5) (oi := _) (v := ?_) rfl (by kernel_rfl) (by kernel_rfl) (by kernel_rfl) (fun _ _ _ h => h) (Or.inl ⟨by rfl, ?_⟩) hS ?_
  rotate_left
  · (intro w hSw; (try dsimp only at hSw); go_simp; (try with_reducible rfl))
  rotate_left
  simp only [Act.put, List.getElem_toArray, List.getElem_cons_zero, List.getElem_cons_succ, List.setIfInBounds_toArray, List.set_cons_zero, List.set_cons_succ]
  refine wpAnyH_take (i := 6) (oi := _) (v := ?_) rfl (by kernel_rfl) (by kernel_rfl) (by kernel_rfl) (fun _ _ _ h => h) (Or.inl ⟨by rfl, ?_⟩) hS ?_
  rotate_left
  · (intro w hSw; (try dsimp only at hSw); go_simp; (try with_reducible rfl))
  rotate_left
  simp only [Act.put, List.getElem_toArray, List.getElem_cons_zero, List.getElem_cons_succ, List.setIfInBounds_toArray, List.set_cons_zero, List.set_cons_succ]
  refine wpAnyH_take (i := 7) (oi := _) (v := ?_) rfl (by kernel_rfl) (by kernel_rfl) (by kernel_rfl) (fun _ _ _ h => h) (Or.inl ⟨by rfl, ?_⟩) hS ?_
  rotate_left
  · (intro w hSw; (try dsimp only at hSw); go_simp; (try with_reducible rfl))
  rotate_left
  simp only [Act.put, List.getElem_toArray, List.getElem_cons_zero, List.getElem_cons_succ, List.setIfInBounds_toArray, List.set_cons_zero, List.set_cons_succ]
  refine wpAnyH_take (i := 8) (oi := _) (v := ?_) rfl (by kernel_rfl) (by kernel_rfl) (by kernel_rfl) (fun _ _ _ h => h) (Or.inl ⟨by rfl, ?_⟩) hS ?_
  rotate_left
  · (intro w hSw; (try dsimp only at hSw); go_simp; (try with_reducible rfl))
  rotate_left
  simp only [Act.put, List.getElem_toArray, List.getElem_cons_zero, List.getElem_cons_succ, List.setIfInBounds_toArray, List.set_cons_zero, List.set_cons_succ]
  refine wpAnyH_take (i := 9) (oi := _) (v := ?_) rfl (by kernel_rfl) (by kernel_rfl) (by kernel_rfl) (fun _ _ _ h => h) (Or.inl ⟨by rfl, ?_⟩) hS ?_
  rotate_left
  · (intro w hSw; (try dsimp only at hSw); go_simp; (try with_reducible rfl))
  rotate_left
  simp only [Act.put, List.getElem_toArray, List.getElem_cons_zero, List.getElem_cons_succ, List.setIfInBounds_toArray, List.set_cons_zero, List.set_cons_succ]
  refine wpAnyH_done (by kernel_rfl) ?_ _
  have tE := Ext.trans HT0.out hS.1
  clear hS HS HD4 HM
  go_wp2
  go_ret
  exact ⟨⟨b, rfl, HB.out⟩, tE⟩
set_option maxRecDepth 100000 in
set_option maxHeartbeats 2000000 in
theorem alive30_any (w : World) : Calls Try.prog 17 #[] w fun e w' => e = .returned (.bool true) ∧ Below w.heap.size w w' := by
  have HBG := Lib.hid (begun_any w)
  go_enter Try.func17, Try.ntmps17
  go_wp2_with fail
  refine HBG.out.mono ?_
  rintro e w1 ⟨⟨A, c, B, d, rfl, ry, rg⟩, t1⟩
  have b2 := Ext.alloc (Below.refl w1.heap.size w1) (.cells #[.slice A 4 c, .slice B 1 d] 28)
  have P2 := BoxOf.new w1 #[.slice A 4 c, .slice B 1 d] 28
  have t2 := Ext.trans t1 b2
  have HM : Hid (∀ (x : UInt8) (w' : World), Below w1.heap.size w1 w' → Calls Try.prog 27 #[.agg #[.slice A 4 c, .slice B 1 d], .int .u8 (x.toNat : Int)] w' fun e w'' => YesNo (LeftP (nulls 4) [begGo] 0 (fullL x)) e ∧ Below w'.heap.size w' w'') := fun x w' bb => maylaw_any _ (nulls 4) [begGo] two_plain1 A c B d x w' (ry.below bb) (rg.below bb)
  have HB2 := Lib.hid b2
  clear ry rg t1 b2
  go_upto_region 2 with fail
  generalize w1.alloc (.cells #[.slice A 4 c, .slice B 1 d] 28) = W at *
  have p2 := P2.cell
  go_wp2_with fail
  refine (HM.out 1 _ HB2.out).mono ?_
  rintro e w3 ⟨⟨v3, rfl, h3⟩, b3⟩
  obtain rfl : v3 = true := h3.2 left_1
  have P3 := P2.next b3
  have p3 := P3.cell
  have t3 := Ext.trans t2 b3
  have c3 := Ext.trans HB2.out b3
  clear p2 h3 P2 t2 b3
  go_wp2_with fail
  refine (HM.out 2 _ c3).mono ?_
  rintro e w4 ⟨⟨v4, rfl, h4⟩, b4⟩
  obtain rfl : v4 = false := by
    cases v4
    · rfl
    · exact absurd (h4.1 rfl) left_2
  have P4 := P3.next b4
  have p4 := P4.cell
  have t4 := Ext.trans t3 b4
  have c4 := Ext.trans c3 b4
  clear p3 h4 P3 t3 b4 c3
  go_wp2_with fail
  refine (HM.out 0 _ c4).mono ?_
  rintro e w5 ⟨⟨v5, rfl, h5⟩, b5⟩
  obtain rfl : v5 = true := h5.2 left_0
  have t5 := Ext.trans t4 b5
  go_wp2
  go_ret
  exact ⟨rfl, t5⟩
end Go.Proofs.Ytclbihcggjjgaaa
/- Layer 30 (model): blocks that a crash may leave, picked. -/
namespace Go.Proofs.Ytclbihcggjjgaaa
open Go Go.RowKit
set_option linter.unusedSimpArgs false
set_option linter.unusedVariables false

/-- each is one of the values that its block may have -/
def Pick (ys : List (List (List UInt8))) (left : List (List UInt8)) : Prop := ∀ i (h : i < left.length) (h' : i < ys.length), ∃ k, ∃ hk : k < (ys[i]).length, left[i] = (ys[i])[k]
theorem Pick.nil (ys : List (List (List UInt8))) : Pick ys [] := fun i h => absurd h (Nat.not_lt_zero _)
theorem Pick.push {ys : List (List (List UInt8))} {left : List (List UInt8)} {z : List UInt8} (h : Pick ys left) (hz : ∀ h' : left.length < ys.length, ∃ k, ∃ hk : k < (ys[left.length]).length, z = (ys[left.length])[k]) : Pick ys (left ++ [z]) := by
  intro i hi h'
  by_cases hl : i < left.length
  · rw [List.getElem_append_left hl]
    exact h i hl h'
  · have he : i = left.length := by rw [List.length_append] at hi; simp at hi; omega
    subst he
    rw [List.getElem_append_right (Nat.le_refl _)]
    simp only [Nat.sub_self, List.getElem_cons_zero]
    exact hz h'
/-- the values of a list lie in old memory -/
def Vals (w : World) (S : Nat → Prop) (left : List (List UInt8)) (vals : List Value) : Prop := vals.length = left.length ∧ ∀ i (h : i < left.length) (h' : i < vals.length), RdIn w S (.sl .byte) left[i] [vals[i]]
theorem Vals.nil (w : World) (S : Nat → Prop) : Vals w S [] [] := ⟨rfl, fun i h => absurd h (Nat.not_lt_zero _)⟩
theorem Vals.push {w : World} {S : Nat → Prop} {left : List (List UInt8)} {vals : List Value} {z : List UInt8} {v : Value} (h : Vals w S left vals) (hz : RdIn w S (.sl .byte) z [v]) : Vals w S (left ++ [z]) (vals ++ [v]) := by
  refine ⟨by simp [h.1], fun i hi h' => ?_⟩
  by_cases hl : i < left.length
  · have hl' : i < vals.length := by rw [h.1]; exact hl
    rw [List.getElem_append_left hl, List.getElem_append_left hl']
    exact h.2 i hl hl'
  · have he : i = left.length := by rw [List.length_append] at hi; simp at hi; omega
    subst he
    have h1 : (left ++ [z])[left.length] = z := by simp
    have h2 : (vals ++ [v])[left.length] = v := by simp [← h.1]
    rw [h1, h2]
    exact hz
def PickIs (w : World) (S : Nat → Prop) (base : Nat) (ys : List (List (List UInt8))) (e : Ending) (w' : World) : Prop :=
  ∃ (v : Value) (left : List (List UInt8)) (vals : List Value), e = .returned v ∧ left.length = ys.length ∧ Pick ys left ∧ Vals w S left vals ∧ w'.ownsRow base 29 1 v left.length vals
theorem fit_nat {n : Nat} (h : n ≤ 512) : IntKind.i64.wrap (n : Int) = (n : Int) := i64_fit (by omega)
theorem fit64_nat {n : Nat} (h : n ≤ 512) : wrap64 (n : Int) = (n : Int) := IntWalk.wrap64_in _ (by omega)
theorem tmod_nat {x n : Nat} (h : 0 < n) : Int.tmod (x : Int) (n : Int) = ((x % n : Nat) : Int) := by rw [Int.tmod_eq_emod_of_nonneg (by omega)]; omega
theorem eq0_nat {n : Nat} (h : 0 < n) : ((n : Int) == 0) = false := by simp; omega
theorem byte_cell {w : World} {A : Option Addr} {n : Nat} {bs : List UInt8} (h : Bs w A n bs) {i : Nat} (hi : i < bs.length) : ∃ b off, A = some ⟨b, off, none⟩ ∧ w.cell? ⟨b, off + i, none⟩ = some (.int .u8 ((bs[i]).toNat : Int)) := by
  obtain ⟨b, off, e, _, hc⟩ := h.addr (by have := h.1; omega)
  exact ⟨b, off, e, hc i hi⟩

set_option maxRecDepth 100000 in
set_option maxHeartbeats 2000000 in
theorem picked_any (S : Nat → Prop) (ys : List (List (List UInt8))) (gs : List GoTy.T) (hlen : ∀ i (h : i < ys.length), 1 ≤ (ys[i]).length ∧ (ys[i]).length ≤ 512) (A : Option Addr) (ca : Nat) (B : Option Addr) (cb : Nat) (D : Option Addr) (dc : Nat) (ps : List UInt8) (w : World) (hy : RdIn w S (.sl (.sl (.sl .byte))) ys [.slice A ys.length ca]) (hd : Bs w D ps.length ps) :
    Calls Try.prog 19 #[.agg #[.slice A ys.length ca, .slice B gs.length cb], .slice D ps.length dc] w fun e w' => PickIs w S w.heap.size ys e w' ∧ Below w.heap.size w w' := by
  obtain ⟨ib, hib, hb0, hb1, hb2⟩ := minfo_bytes
  have P0 := BoxOf.new w #[.slice A ys.length ca, .slice B gs.length cb] 28
  have t0 := Ext.alloc (Below.refl w.heap.size w) (.cells #[.slice A ys.length ca, .slice B gs.length cb] 28)
  have HY0 := Lib.hid hy
  have HD := Lib.hid hd
  have HL := Lib.hid hlen
  have HYM := Lib.hid (may_max hy)
  have hyz : Hid (ys.length * 24 ≤ 140737488355328) := by
    obtain ⟨_, _, _, _, h1, _⟩ := view3 hy
    exact h1
  clear hy hd hlen
  go_enter Try.func19, Try.ntmps19
  go_upto_region 1 with fail
  generalize w.alloc (.cells #[.slice A ys.length ca, .slice B gs.length cb] 28) = W at *
  have HWW : Hid (w.heap.size ≤ W.heap.size) := t0.size
  have own0 : W.ownsRow W.heap.size 29 1 (.slice none 0 0) 0 [] := ⟨rfl, .inl ⟨rfl, rfl⟩⟩
  go_wp2
  go_loopw [5, 6] (fun v i wr => ∃ (j : Nat) (left : List (List UInt8)) (vals : List Value), j ≤ ys.length ∧ i = .int .i64 j ∧ left.length = j ∧ Hid (Pick ys left) ∧ Hid (Vals w S left vals) ∧ Below w.heap.size w wr ∧ Below W.heap.size W wr ∧ wr.ownsRow W.heap.size 29 1 v j vals) (fun _ i _ => ys.length - (intOf i).toNat)
  case atStart => exact ⟨0, [], [], by omega, rfl, rfl, Pick.nil ys, Vals.nil w S, t0, Below.refl _ _, own0⟩
  case round =>
    obtain ⟨j, left, vals, hj, rfl, hjl, PK, VL, t9, k9, M9⟩ := hrel
    clear t0 own0
    by_cases hlt : j < ys.length
    · obtain ⟨b, off, A2, c2, rfl, q2w, r2⟩ := may_at HY0.out hlt
      have q2 : wr.cell? ⟨b, off + j, none⟩ = _ := (t9.cell (p := ⟨b, off + j, none⟩) (cell_lt q2w)).trans q2w
      have hz := HL.out j hlt
      have HSTEP : Hid (∀ k (hk : k < (ys[j]).length), Pick ys (left ++ [(ys[j])[k]])) := fun k hk => PK.out.push (by subst hjl; exact fun _ => ⟨k, hk, rfl⟩)
      have HVAL : Hid (∀ k (hk : k < (ys[j]).length), ∃ b5 off5 A5 c5, A2 = some ⟨b5, off5, none⟩ ∧ w.cell? ⟨b5, off5 + k, none⟩ = some (.slice A5 ((ys[j])[k]).length c5) ∧ RdIn w S (.sl .byte) ((ys[j])[k]) [.slice A5 ((ys[j])[k]).length c5]) := fun k hk => val_at r2 hk
      generalize ys[j] = zs at *
      have HWJ := next_wrap HYM.out hlt
      have HLJ := Lib.hid hlt
      have p1 := (P0.next k9).cell
      obtain ⟨k0, hk0, hke⟩ : ∃ k : Nat, k < zs.length ∧ (zs.length : Int) - 1 = (k : Int) := ⟨zs.length - 1, by omega, by omega⟩
      have hw1 : wrap64 ((zs.length : Int) - 1) = (k0 : Int) := by rw [IntWalk.wrap64_in _ (by omega)]; exact hke
      have HKE := Lib.hid hke
      have HZ := Lib.hid hz
      have HJL := Lib.hid hjl
      clear q2w r2 hke hz hjl PK
      by_cases hp : j < ps.length
      · obtain ⟨b3, off3, rfl, q3w⟩ := byte_cell HD.out hp
        have q3 : wr.cell? ⟨b3, off3 + j, none⟩ = _ := (t9.cell (p := ⟨b3, off3 + j, none⟩) (cell_lt q3w)).trans q3w
        have hx9 : (ps[j]).toNat < 256 := (ps[j]).toNat_lt
        generalize (ps[j]).toNat = x at *
        obtain ⟨k, hk, hme⟩ : ∃ k : Nat, k < zs.length ∧ Int.tmod (x : Int) (zs.length : Int) = (k : Int) := ⟨x % zs.length, Nat.mod_lt _ HZ.out.1, tmod_nat HZ.out.1⟩
        have hwk : wrap64 (k : Int) = (k : Int) := fit64_nat (Nat.le_trans (Nat.le_of_lt hk) HZ.out.2)
        have hz0 : ((zs.length : Int) == 0) = false := eq0_nat HZ.out.1
        have hx5 : x ≤ 512 := Nat.le_trans (Nat.le_of_lt hx9) (by decide)
        have hwx : wrap64 (x : Int) = (x : Int) := fit64_nat hx5
        have hwy : IntKind.i64.wrap (x : Int) = (x : Int) := fit_nat hx5
        have hwl : IntKind.i64.wrap (k : Int) = (k : Int) := fit_nat (Nat.le_trans (Nat.le_of_lt hk) HZ.out.2)
        have hzn : ¬ zs = [] := fun h => by have h1 := HZ.out.1; rw [h] at h1; exact absurd h1 (by decide)
        clear q3w hk0 hx9 hx5
        go_upto_region 7 with fail
        have HS : Hid (∀ w', Below wr.heap.size wr w' → (Below wr.heap.size wr w' ∧ (∀ o, w'.cell? ⟨w.heap.size, o, none⟩ = #[Value.slice (some ⟨b, off, none⟩) ys.length ca, Value.slice B gs.length cb].toList[o]?) ∧ w'.cell? ⟨b, off + j, none⟩ = some (.slice A2 zs.length c2) ∧ w'.cell? ⟨b3, off3 + j, none⟩ = some (.int .u8 (x : Int)))) := fun w' b => ⟨b, ((P0.next k9).next b).cell, (b.cell (cell_lt q2)).trans q2, (b.cell (cell_lt q3)).trans q3⟩
        refine wp_region_held_drew (S := fun w' => Below wr.heap.size wr w' ∧ (∀ o, w'.cell? ⟨w.heap.size, o, none⟩ = #[Value.slice (some ⟨b, off, none⟩) ys.length ca, Value.slice B gs.length cb].toList[o]?) ∧ w'.cell? ⟨b, off + j, none⟩ = some (.slice A2 zs.length c2) ∧ w'.cell? ⟨b3, off3 + j, none⟩ = some (.int .u8 (x : Int))) (by kernel_rfl) (HS.out _ (Ext.drew (Below.refl _ _))) (fun hS => ?_)
        refine wpAnyH_take (i := 0) (oi := _) (v := ?_) rfl (by kernel_rfl) (by kernel_rfl) (by kernel_rfl) (fun _ _ _ h => h) (Or.inl ⟨by rfl, ?_⟩) hS ?_
        rotate_left
        · (intro w hSw; (try dsimp only at hSw); go_simp; (try with_reducible rfl))
        rotate_left
        simp only [Act.put, List.getElem_toArray, List.getElem_cons_zero, List.getElem_cons_succ, List.setIfInBounds_toArray, List.set_cons_zero, List.set_cons_succ]
        refine wpAnyH_take (i := 1) (oi := _) (v := ?_) rfl (by kernel_rfl) (by kernel_rfl) (by kernel_rfl) (fun _ _ _ h => h) (Or.inl ⟨by rfl, ?_⟩) hS ?_
        rotate_left
        · (intro w hSw; (try dsimp only at hSw); go_simp; (try with_reducible rfl))
        rotate_left
        simp only [Act.put, List.getElem_toArray, List.getElem_cons_zero, List.getElem_cons_succ, List.setIfInBounds_toArray, List.set_cons_zero, List.set_cons_succ]
        refine wpAnyH_take (i := 2) (oi := _) (v := ?_) rfl (by kernel_rfl) (by kernel_rfl) (by kernel_rfl) (fun _ _ _ h => h) (Or.inl ⟨by rfl, ?_⟩) hS ?_
        rotate_left
        · (intro w hSw; (try dsimp only at hSw); go_simp; (try with_reducible rfl))
        rotate_left
        simp only [Act.put, List.getElem_toArray, List.getElem_cons_zero, List.getElem_cons_succ, List.setIfInBounds_toArray, List.set_cons_zero, List.set_cons_succ]
        refine wpAnyH_take (i := 3) (oi := _) (v := ?_) rfl (by kernel_rfl) (by kernel_rfl) (by kernel_rfl) (fun _ _ _ h => h) (Or.inl ⟨by rfl, ?_⟩) hS ?_
        rotate_left
        · (intro w hSw; (try dsimp only at hSw); go_simp; (try with_reducible rfl))
        rotate_left
        simp only [Act.put, List.getElem_toArray, List.getElem_cons_zero, List.getElem_cons_succ, List.setIfInBounds_toArray, List.set_cons_zero, List.set_cons_succ]
        refine wpAnyH_take (i := 4) (oi := _) (v := ?_) rfl (by kernel_rfl) (by kernel_rfl) (by kernel_rfl) (fun _ _ _ h => h) (Or.inl ⟨by rfl, ?_⟩) hS ?_
        rotate_left
        · (intro w hSw; (try dsimp only at hSw); go_simp; (try with_reducible rfl))
        rotate_left
        simp only [Act.put, List.getElem_toArray, List.getElem_cons_zero, List.getElem_cons_succ, List.setIfInBounds_toArray, List.set_cons_zero, List.set_cons_succ]
        refine wpAnyH_take (i := 5) (oi := _) (v := ?_) rfl (by kernel_rfl) (by kernel_rfl) (by kernel_rfl) (fun _ _ _ h => h) (Or.inl ⟨by rfl, ?_⟩) hS ?_
        rotate_left
        · (intro w hSw; (try dsimp only at hSw); go_simp; (try with_reducible rfl))
        rotate_left
        simp only [Act.put, List.getElem_toArray, List.getElem_cons_zero, List.getElem_cons_succ, List.setIfInBounds_toArray, List.set_cons_zero, List.set_cons_succ]
        refine wpAnyH_take (i := 6) (oi := _) (v := ?_) rfl (by kernel_rfl) (by kernel_rfl) (by kernel_rfl) (fun _ _ _ h => h) (Or.inl ⟨by rfl, ?_⟩) hS ?_
        rotate_left
        · (intro w hSw; (try dsimp only at hSw); go_simp; (try with_reducible rfl))
        rotate_left
        simp only [Act.put, List.getElem_toArray, List.getElem_cons_zero, List.getElem_cons_succ, List.setIfInBounds_toArray, List.set_cons_zero, List.set_cons_succ]
        refine wpAnyH_take (i := 7) (oi := _) (v := ?_) rfl (by kernel_rfl) (by kernel_rfl) (by kernel_rfl) (fun _ _ _ h => h) (Or.inl ⟨by rfl, ?_⟩) hS ?_
        rotate_left
        · (intro w hSw; (try dsimp only at hSw); go_simp; (try with_reducible rfl))
        rotate_left
        simp only [Act.put, List.getElem_toArray, List.getElem_cons_zero, List.getElem_cons_succ, List.setIfInBounds_toArray, List.set_cons_zero, List.set_cons_succ]
        refine wpAnyH_take (i := 8) (oi := _) (v := ?_) rfl (by kernel_rfl) (by kernel_rfl) (by kernel_rfl) (fun _ _ _ h => h) (Or.inl ⟨by rfl, ?_⟩) hS ?_
        rotate_left
        · (intro w hSw; (try dsimp only at hSw); go_simp; (try with_reducible rfl))
        rotate_left
        simp only [Act.put, List.getElem_toArray, List.getElem_cons_zero, List.getElem_cons_succ, List.setIfInBounds_toArray, List.set_cons_zero, List.set_cons_succ]
        refine wpAnyH_take (i := 9) (oi := _) (v := ?_) rfl (by kernel_rfl) (by kernel_rfl) (by kernel_rfl) (fun _ _ _ h => h) (Or.inl ⟨by rfl, ?_⟩) hS ?_
        rotate_left
        · (intro w hSw; (try dsimp only at hSw); go_simp; (try with_reducible rfl))
        rotate_left
        simp only [Act.put, List.getElem_toArray, List.getElem_cons_zero, List.getElem_cons_succ, List.setIfInBounds_toArray, List.set_cons_zero, List.set_cons_succ]
        refine wpAnyH_take (i := 10) (oi := _) (v := ?_) rfl (by kernel_rfl) (by kernel_rfl) (by kernel_rfl) (fun _ _ _ h => h) (Or.inl ⟨by rfl, ?_⟩) hS ?_
        rotate_left
        · (intro w hSw; (try dsimp only at hSw); go_simp; (try with_reducible rfl))
        rotate_left
        simp only [Act.put, List.getElem_toArray, List.getElem_cons_zero, List.getElem_cons_succ, List.setIfInBounds_toArray, List.set_cons_zero, List.set_cons_succ]
        refine wpAnyH_take (i := 11) (oi := _) (v := ?_) rfl (by kernel_rfl) (by kernel_rfl) (by kernel_rfl) (fun _ _ _ h => h) (Or.inl ⟨by rfl, ?_⟩) hS ?_
        rotate_left
        · (intro w hSw; (try dsimp only at hSw); go_simp; (try with_reducible rfl))
        rotate_left
        simp only [Act.put, List.getElem_toArray, List.getElem_cons_zero, List.getElem_cons_succ, List.setIfInBounds_toArray, List.set_cons_zero, List.set_cons_succ]
        refine wpAnyH_take (i := 12) (oi := _) (v := ?_) rfl (by kernel_rfl) (by kernel_rfl) (by kernel_rfl) (fun _ _ _ h => h) (Or.inl ⟨by rfl, ?_⟩) hS ?_
        rotate_left
        · (intro w hSw; (try dsimp only at hSw); go_simp; (try with_reducible rfl))
        rotate_left
        simp only [Act.put, List.getElem_toArray, List.getElem_cons_zero, List.getElem_cons_succ, List.setIfInBounds_toArray, List.set_cons_zero, List.set_cons_succ]
        refine wpAnyH_done (by kernel_rfl) ?_ _
        have bH := hS.1
        have p1 := (P0.next (Ext.trans k9 hS.1)).cell
        have q2n := hS.2.2.1
        have t9n := Ext.trans t9 hS.1
        have k9n := Ext.trans k9 hS.1
        have M9n := own_next M9 hS.1
        clear hS HS q2 q3 t9 k9 M9 hwx hwy hwl hwk hz0 hzn bH
        have t9 := t9n
        have k9 := k9n
        have M9 := M9n
        clear t9n k9n M9n
        obtain ⟨b5, off5, A5, c5, rfl, q5w, r5⟩ := HVAL.out k hk
        have HST := Lib.hid (HSTEP.out k hk)
        have q5 : (wr.drew).cell? ⟨b5, off5 + k, none⟩ = _ := (t9.cell (p := ⟨b5, off5 + k, none⟩) (cell_lt q5w)).trans q5w
        generalize zs[k] = bs at *
        have HVL := Lib.hid (VL.out.push r5)
        have bb := Ext.alloc (Below.refl (wr.drew).heap.size (wr.drew)) (.cells #[.slice A5 bs.length c5] 29)
        have rd := rd_row (wr.drew) #[.slice A5 bs.length c5] 29
        have M10 := own_next M9 bb
        have t10 := Ext.trans t9 bb
        have k10 := Ext.trans k9 bb
        have HBY : Hid (j + 1 ≤ maxLen ∧ (j + 1) * 24 ≤ 140737488355328) := by
          have h1 := hyz.out
          have h2 := HLJ.out
          show _ ∧ _
          unfold maxLen
          omega
        have HS10 : Hid (W.heap.size ≤ ((wr.drew).alloc (.cells #[.slice A5 bs.length c5] 29)).heap.size) := k10.size
        clear bb r5 M9 t9 k9 q5w hj
        go_wp2_with (at_builtin; refine wpList_append_rd _ rfl (.tmp 38) (.tmp 47) 30 rfl W.heap.size 29 ib _ 1 24 Try.underlying30 hib hb0 hb1 hb2 rfl (by decide) _ j vals rfl M10 (some ⟨(wr.drew).heap.size, 0, none⟩) 1 _ [.slice A5 bs.length c5] rfl (by simp) rd (by intro u hu; simp at hu; subst hu; rfl) HBY.out.1 HBY.out.2 HS10.out ?_; intro v7 w7 M7 g7 k7; have t7 := Below.grown t10 g7 t10.size (fun r e => Nat.le_trans HWW.out (own_block M10 e)); have kk7 := Below.grown k10 g7 HS10.out (fun r e => own_block M10 e); clear t10 k10 M10 rd g7 k7)
        have M8 : w7.ownsRow W.heap.size 29 1 v7 (j + 1) (vals ++ [.slice A5 bs.length c5]) := M7
        go_roundw
        case rel => exact ⟨j + 1, left ++ [bs], vals ++ [.slice A5 bs.length c5], HLJ.out, (by first | exact round_same HWJ | go_num), (by rw [List.length_append, HJL.out]; rfl), HST, HVL, t7, kk7, M8⟩
        case measure => first | exact round_less HWJ HLJ.out | (have h := HLJ.out; simp [intOf]; omega)
      · have hk := hk0
        clear hk0
        obtain ⟨b5, off5, A5, c5, rfl, q5w, r5⟩ := HVAL.out k0 hk
        have HST := Lib.hid (HSTEP.out k0 hk)
        have q5 : (wr).cell? ⟨b5, off5 + k0, none⟩ = _ := (t9.cell (p := ⟨b5, off5 + k0, none⟩) (cell_lt q5w)).trans q5w
        generalize zs[k0] = bs at *
        have HVL := Lib.hid (VL.out.push r5)
        have bb := Ext.alloc (Below.refl (wr).heap.size (wr)) (.cells #[.slice A5 bs.length c5] 29)
        have rd := rd_row (wr) #[.slice A5 bs.length c5] 29
        have M10 := own_next M9 bb
        have t10 := Ext.trans t9 bb
        have k10 := Ext.trans k9 bb
        have HBY : Hid (j + 1 ≤ maxLen ∧ (j + 1) * 24 ≤ 140737488355328) := by
          have h1 := hyz.out
          have h2 := HLJ.out
          show _ ∧ _
          unfold maxLen
          omega
        have HS10 : Hid (W.heap.size ≤ ((wr).alloc (.cells #[.slice A5 bs.length c5] 29)).heap.size) := k10.size
        clear bb r5 M9 t9 k9 q5w hj
        go_wp2_with (at_builtin; refine wpList_append_rd _ rfl (.tmp 38) (.tmp 47) 30 rfl W.heap.size 29 ib _ 1 24 Try.underlying30 hib hb0 hb1 hb2 rfl (by decide) _ j vals rfl M10 (some ⟨(wr).heap.size, 0, none⟩) 1 _ [.slice A5 bs.length c5] rfl (by simp) rd (by intro u hu; simp at hu; subst hu; rfl) HBY.out.1 HBY.out.2 HS10.out ?_; intro v7 w7 M7 g7 k7; have t7 := Below.grown t10 g7 t10.size (fun r e => Nat.le_trans HWW.out (own_block M10 e)); have kk7 := Below.grown k10 g7 HS10.out (fun r e => own_block M10 e); clear t10 k10 M10 rd g7 k7)
        have M8 : w7.ownsRow W.heap.size 29 1 v7 (j + 1) (vals ++ [.slice A5 bs.length c5]) := M7
        go_roundw
        case rel => exact ⟨j + 1, left ++ [bs], vals ++ [.slice A5 bs.length c5], HLJ.out, (by first | exact round_same HWJ | go_num), (by rw [List.length_append, HJL.out]; rfl), HST, HVL, t7, kk7, M8⟩
        case measure => first | exact round_less HWJ HLJ.out | (have h := HLJ.out; simp [intOf]; omega)
    · have hje : j = ys.length := by omega
      have HE := Lib.hid (hjl.trans hje)
      have HM9 : Hid (wr.ownsRow w.heap.size 29 1 u5 left.length vals) := by
        show wr.ownsRow _ _ _ _ _ _
        rw [hjl]
        exact own_base M9 HWW.out
      have p1 := (P0.next k9).cell
      clear hje hjl M9 hj
      go_wp2
      go_ret
      exact ⟨⟨_, left, vals, rfl, HE.out, PK.out, VL.out, HM9.out⟩, t9⟩
end Go.Proofs.Ytclbihcggjjgaaa
/- Layer 30 (model): plain laws of a crash to the values that there are. -/
namespace Go.Proofs.Ytclbihcggjjgaaa
open Go Go.RowKit
set_option linter.unusedSimpArgs false
set_option linter.unusedVariables false

theorem pick_len {x : Cfg} {ys : List (List (List UInt8))} {gs : List GoTy.T} {left : List (List UInt8)} (hp : PlainOk x ys gs) (hl : left.length = ys.length) (hk : Pick ys left) : ∀ i (h : i < left.length), (left[i]).length = 128 := fun i h => by
  have h' : i < ys.length := by rw [← hl]; exact h
  obtain ⟨k, hkk, e⟩ := hk i h h'
  rw [e]
  exact (hp.vals i h').2.2 k hkk
theorem pick_left {ys : List (List (List UInt8))} {gs : List GoTy.T} {left : List (List UInt8)} (hl : left.length = ys.length) (hk : Pick ys left) : ∀ i (h : i < left.length), LeftP ys gs i left[i] := fun i h => by
  have h' : i < ys.length := by rw [← hl]; exact h
  obtain ⟨k, hkk, e⟩ := hk i h h'
  exact .inl ⟨h', k, hkk, by unfold eqBs; rw [e]; simp⟩
theorem crash_pick {x : Cfg} {ys : List (List (List UInt8))} {gs : List GoTy.T} {left : List (List UInt8)} (hp : PlainOk x ys gs) (hl : left.length = ys.length) (hk : Pick ys left) {v : Int} (h : CrashRel x ys gs left v) : v = 0 :=
  h.one (.inr (.inr (.inr (.inr ⟨hp, hl, pick_len hp hl hk, pick_left hl hk, rfl⟩))))
theorem ones_at {left : List (List UInt8)} {i : Nat} (h : i < (ones left).length) (h' : i < left.length) : (ones left)[i] = [left[i]] := by
  simp [ones]
theorem ones_plain {x : Cfg} {ys : List (List (List UInt8))} {gs : List GoTy.T} {left : List (List UInt8)} (hp : PlainOk x ys gs) (hl : left.length = ys.length) (hk : ∀ i (h : i < left.length), (left[i]).length = 128) : PlainOk x (ones left) [] where
  cfg := hp.cfg
  len := by rw [ones_len, hl]; exact hp.len
  few := by simp
  vals := fun i h => by
    have h' : i < left.length := by rw [← ones_len]; exact h
    rw [ones_at h h']
    refine ⟨by simp, by simp, fun k hk0 => ?_⟩
    have e : k = 0 := by have : k < 1 := hk0; omega
    subst e
    exact hk i h'
  goes := fun i h => absurd h (Nat.not_lt_zero _)
end Go.Proofs.Ytclbihcggjjgaaa
/- Layer 30 (model): a plain array in memory of one's own, laid out so that it can be written: its rows lie apart. -/
namespace Go.Proofs.Ytclbihcggjjgaaa
open Go Go.RowKit
set_option linter.unusedVariables false

/-! ### what changes -/
/-- blocks of type t may have turned, no others -/
def But (t : TypeId) (w w' : World) : Prop := ∀ b, b < w.heap.size → w'.heap[b]? = w.heap[b]? ∨ ∃ cs, BoxOf w b cs t
theorem But.of_below {t : TypeId} {w w' : World} (h : Below w.heap.size w w') : But t w w' := fun b hb => .inl (h.block b hb)
theorem BoxOf.but {t t' : TypeId} {w w' : World} {b : Nat} {cs : Array Value} (h : BoxOf w b cs t') (hb : But t w w') (ht : t' ≠ t) : BoxOf w' b cs t' := by
  rcases hb b h.lt with e | ⟨ds, e⟩
  · unfold BoxOf at *
    rw [e]; exact h
  · unfold BoxOf at *
    rw [h] at e
    injection e with e
    injection e with _ e
    exact absurd e ht
theorem box_diff {w : World} {b b' : Nat} {cs ds : Array Value} {t t' : TypeId} (h : BoxOf w b cs t) (h' : BoxOf w b' ds t') (ht : t ≠ t') : b ≠ b' := by
  intro e
  subst e
  unfold BoxOf at *
  rw [h] at h'
  injection h' with e
  injection e with _ e
  exact ht e
/-! ### rows -/
/-- a row of values: its block, its place, its room -/
def RowS (w : World) (By : Nat → Prop) (lo g o c : Nat) (zs : List (List UInt8)) : Prop :=
  ∃ cur : Array Value, BoxOf w g cur 29 ∧ zs.length ≤ c ∧ c ≤ maxLen ∧ o + c ≤ cur.size ∧ (lo ≤ g ∧ ¬ By g) ∧
    ∀ k (h : k < zs.length), ∃ u, cur.toList[o + k]? = some u ∧ RdIn w By (.sl .byte) zs[k] [u]
/-- the rows of a plain array -/
def MayS (w : World) (By : Nat → Prop) (lo R : Nat) (ys : List (List (List UInt8))) : Prop :=
  ∃ (cells : Array Value) (gf of cf : Nat → Nat), BoxOf w R cells 30 ∧ (lo ≤ R ∧ ¬ By R) ∧
    (∀ i (h : i < ys.length), cells.toList[i]? = some (.slice (some ⟨gf i, of i, none⟩) (ys[i]).length (cf i)) ∧ RowS w By lo (gf i) (of i) (cf i) ys[i]) ∧
    (∀ i j, i < ys.length → j < ys.length → gf i = gf j → i = j)
theorem RowS.frame {w w' : World} {By By' : Nat → Prop} {lo g o c : Nat} {zs : List (List UInt8)} (h : RowS w By lo g o c zs) (hg : w'.heap[g]? = w.heap[g]?) (hb : ∀ b, By b → w'.heap[b]? = w.heap[b]?) (hB : ∀ b, By b → By' b) (hn : ¬ By' g) : RowS w' By' lo g o c zs := by
  obtain ⟨cur, h1, h2, h3, h4, h5, h6⟩ := h
  refine ⟨cur, by unfold BoxOf at *; rw [hg]; exact h1, h2, h3, h4, ⟨h5.1, hn⟩, fun k hk => ?_⟩
  obtain ⟨u, h7, h8⟩ := h6 k hk
  exact ⟨u, h7, (h8.frame hb).mono hB⟩
theorem MayS.but {w w' : World} {By : Nat → Prop} {lo R : Nat} {ys : List (List (List UInt8))} {t : TypeId} (h : MayS w By lo R ys) (ht1 : 30 ≠ t) (ht2 : 29 ≠ t) (hb : But t w w') (hB : ∀ b, By b → w'.heap[b]? = w.heap[b]?) : MayS w' By lo R ys := by
  obtain ⟨cells, gf, of, cf, h1, h2, h3, h4⟩ := h
  refine ⟨cells, gf, of, cf, h1.but hb ht1, h2, fun i hi => ⟨(h3 i hi).1, ?_⟩, h4⟩
  obtain ⟨cur, k1, k2, k3, k4, k5, k6⟩ := (h3 i hi).2
  refine ⟨cur, k1.but hb ht2, k2, k3, k4, k5, fun k hk => ?_⟩
  obtain ⟨u, h7, h8⟩ := k6 k hk
  exact ⟨u, h7, h8.frame hB⟩
/-- one row is laid open, and laid anew -/
theorem MayS.row {w : World} {By : Nat → Prop} {lo R : Nat} {ys : List (List (List UInt8))} (h : MayS w By lo R ys) {k : Nat} (hk : k < ys.length) :
    ∃ (cells : Array Value) (g o c : Nat), BoxOf w R cells 30 ∧ (lo ≤ R ∧ ¬ By R) ∧ cells.toList[k]? = some (.slice (some ⟨g, o, none⟩) (ys[k]).length c) ∧ RowS w By lo g o c ys[k] ∧
      ∀ (w' : World) (By' : Nat → Prop) (g' o' c' : Nat) (zs : List (List UInt8)), (∀ b, b < w.heap.size → b ≠ R → b ≠ g → w'.heap[b]? = w.heap[b]?) →
        BoxOf w' R (cells.setIfInBounds k (.slice (some ⟨g', o', none⟩) zs.length c')) 30 → RowS w' By' lo g' o' c' zs → (g' = g ∨ w.heap.size ≤ g') →
        (∀ b, By b → b < w.heap.size ∧ By' b) → (∀ b, b < w.heap.size → By' b → By b) → MayS w' By' lo R (ys.set k zs) := by
  obtain ⟨cells, gf, of, cf, h1, h2, h3, h4⟩ := h
  refine ⟨cells, gf k, of k, cf k, h1, h2, (h3 k hk).1, (h3 k hk).2, ?_⟩
  intro w' By' g' o' c' zs hf hR hrow hg hB hB'
  have hlt : ∀ i, i < ys.length → gf i < w.heap.size := fun i hi => by
    obtain ⟨cur, k1, _⟩ := (h3 i hi).2
    exact k1.lt
  have hnB : ∀ i, i < ys.length → ¬ By (gf i) := fun i hi => by
    obtain ⟨cur, _, _, _, _, k5, _⟩ := (h3 i hi).2
    exact k5.2
  have hkc : k < cells.toList.length := (List.getElem?_eq_some_iff.1 (h3 k hk).1).1
  refine ⟨_, fun i => if i = k then g' else gf i, fun i => if i = k then o' else of i, fun i => if i = k then c' else cf i, hR, ⟨h2.1, fun h => h2.2 (hB' R h1.lt h)⟩, fun i hi => ?_, fun i j hi hj e => ?_⟩
  · rw [List.length_set] at hi
    by_cases e : i = k
    · subst e
      simp only [if_true, List.getElem_set_self]
      exact ⟨by rw [Array.toList_setIfInBounds, List.getElem?_set_self hkc], hrow⟩
    · simp only [if_neg e, List.getElem_set_ne (fun h => e h.symm)]
      refine ⟨?_, ?_⟩
      · rw [Array.toList_setIfInBounds, List.getElem?_set_ne (fun h => e h.symm)]
        exact (h3 i hi).1
      · have hne : gf i ≠ gf k := fun h => e (h4 i k hi hk h)
        have hneR : gf i ≠ R := by
          obtain ⟨cur, k1, _⟩ := (h3 i hi).2
          exact box_diff k1 h1 (by decide)
        refine (h3 i hi).2.frame (hf _ (hlt i hi) hneR hne) (fun b hb => hf b (hB b hb).1 (fun e => h2.2 (e ▸ hb)) (fun e => hnB k hk (e ▸ hb))) (fun b hb => (hB b hb).2) (fun h => hnB i hi (hB' _ (hlt i hi) h))
  · rw [List.length_set] at hi hj
    by_cases ei : i = k <;> by_cases ej : j = k
    · rw [ei, ej]
    · subst ei
      simp only [if_true, if_neg ej] at e
      rcases hg with hg | hg
      · exact h4 i j hi hj (hg.symm.trans e)
      · have := hlt j hj; omega
    · subst ej
      simp only [if_true, if_neg ei] at e
      rcases hg with hg | hg
      · exact h4 i j hi hj (e.trans hg)
      · have := hlt i hi; omega
    · simp only [if_neg ei, if_neg ej] at e
      exact h4 i j hi hj e
theorem MayS.lt {w : World} {By : Nat → Prop} {lo R : Nat} {ys : List (List (List UInt8))} (h : MayS w By lo R ys) : R < w.heap.size := by
  obtain ⟨cells, gf, of, cf, h1, h2, h3, h4⟩ := h
  exact h1.lt
theorem RowS.lt {w : World} {By : Nat → Prop} {lo g o c : Nat} {zs : List (List UInt8)} (h : RowS w By lo g o c zs) : g < w.heap.size := by
  obtain ⟨cur, h1, _⟩ := h
  exact h1.lt
/-- such a plain array reads -/
theorem RowS.rdin {w : World} {By : Nat → Prop} {lo g o c : Nat} {zs : List (List UInt8)} (h : RowS w By lo g o c zs) (hB : ∀ b, By b → NewB lo w b) (hz : zs.length ≤ 1000) : RdIn w (NewB lo w) (.sl (.sl .byte)) zs [.slice (some ⟨g, o, none⟩) zs.length c] := by
  obtain ⟨cur, h1, h2, h3, h4, h5, h6⟩ := h
  refine rdin_sl.2 ⟨_, _, rfl, h2, h3, by show zs.length * 24 ≤ _; omega, .inr ⟨g, o, rfl, ⟨h5.1, h1.lt, _, _, h1⟩, fun i hi => ?_⟩⟩
  obtain ⟨u, h7, h8⟩ := h6 i hi
  refine ⟨[u], fun j hj => ?_, h8.mono hB⟩
  have hj0 : j = 0 := by have : j < 1 := hj; omega
  subst hj0
  show w.cell? ⟨g, o + i * 1 + 0, none⟩ = some u
  rw [Nat.mul_one, Nat.add_zero, h1.cell]
  exact h7
theorem MayS.rdin {w : World} {By : Nat → Prop} {lo R : Nat} {ys : List (List (List UInt8))} (h : MayS w By lo R ys) {cR : Nat} (hc : ys.length ≤ cR ∧ cR ≤ maxLen) (hl : ys.length ≤ 1000) (hB : ∀ b, By b → NewB lo w b) (hz : ∀ i (hi : i < ys.length), (ys[i]).length ≤ 1000) : RdIn w (NewB lo w) (.sl (.sl (.sl .byte))) ys [.slice (some ⟨R, 0, none⟩) ys.length cR] := by
  obtain ⟨cells, gf, of, cf, h1, h2, h3, h4⟩ := h
  refine rdin_sl.2 ⟨_, _, rfl, hc.1, hc.2, by show ys.length * 24 ≤ _; omega, .inr ⟨R, 0, rfl, ⟨h2.1, h1.lt, _, _, h1⟩, fun i hi => ?_⟩⟩
  refine ⟨_, fun j hj => ?_, (h3 i hi).2.rdin hB (hz i hi)⟩
  have hj0 : j = 0 := by have : j < 1 := hj; omega
  subst hj0
  show w.cell? ⟨R, 0 + i * 1 + 0, none⟩ = some _
  rw [Nat.mul_one, Nat.add_zero, Nat.zero_add, h1.cell]
  exact (h3 i hi).1

/-! ### requests -/
/-- marks: their block -/
def MkS (w : World) (By : Nat → Prop) (lo : Nat) (v : Value) (b : Nat) (ms : List Int) : Prop :=
  (∀ x ∈ ms, IsInt x) ∧ ∃ A c, v = .slice A ms.length c ∧ ms.length ≤ c ∧ c ≤ maxLen ∧ ms.length * 8 ≤ 140737488355328 ∧
    (ms = [] ∨ ∃ o cur, A = some ⟨b, o, none⟩ ∧ BoxOf w b cur 3 ∧ (lo ≤ b ∧ ¬ By b) ∧ ∀ q (h : q < ms.length), cur.toList[o + q]? = some (.int .i64 ms[q]))
/-- a request's cells -/
def GoE (w : World) (By : Nat → Prop) (lo : Nat) (at' : Nat → Option Value) (b : Nat) (g : GoTy.T) : Prop :=
  ∃ vd vm, (at' 0 = some (.int .i64 (nuOf g)) ∧ at' 1 = some (.int .u8 ((kiOf g).toNat : Int)) ∧ at' 2 = some (.int .i64 (atOf g)) ∧ at' 3 = some (.int .i64 (manyOf g)) ∧ at' 4 = some vd ∧ at' 5 = some vm) ∧
    (IsInt (nuOf g) ∧ IsInt (atOf g) ∧ IsInt (manyOf g)) ∧ RdIn w By (.sl .byte) (datOf g) [vd] ∧ MkS w By lo vm b (mksOf g)
def GoS (w : World) (By : Nat → Prop) (lo : Nat) (B : Option Addr) (d : Nat) (gs : List GoTy.T) : Prop :=
  gs = [] ∨ ∃ (G o : Nat) (cells : Array Value) (bf : Nat → Nat), B = some ⟨G, o, none⟩ ∧ BoxOf w G cells 64 ∧ (lo ≤ G ∧ ¬ By G ∧ o + d * 6 ≤ cells.size) ∧
    (∀ j (h : j < gs.length), GoE w By lo (fun q => cells.toList[o + j * 6 + q]?) (bf j) gs[j]) ∧
    (∀ i j (hi : i < gs.length) (hj : j < gs.length), mksOf gs[i] ≠ [] → mksOf gs[j] ≠ [] → bf i = bf j → i = j)
theorem MkS.frame {w w' : World} {By By' : Nat → Prop} {lo : Nat} {v : Value} {b : Nat} {ms : List Int} (h : MkS w By lo v b ms) (hf : ms ≠ [] → w'.heap[b]? = w.heap[b]?) (hB : b < w.heap.size → By' b → By b) : MkS w' By' lo v b ms := by
  obtain ⟨h0, A, c, h1, h2, h3, h4, h5⟩ := h
  refine ⟨h0, A, c, h1, h2, h3, h4, ?_⟩
  rcases h5 with h5 | ⟨o, cur, h6, h7, h8, h9⟩
  · exact .inl h5
  · by_cases he : ms = []
    · exact .inl he
    · exact .inr ⟨o, cur, h6, by have := hf he; unfold BoxOf at *; rw [this]; exact h7, ⟨h8.1, fun h => h8.2 (hB h7.lt h)⟩, h9⟩
theorem GoE.frame {w w' : World} {By By' : Nat → Prop} {lo : Nat} {at' at2 : Nat → Option Value} {b : Nat} {g : GoTy.T} (h : GoE w By lo at' b g) (ha : ∀ q, q < 6 → at2 q = at' q) (hf : mksOf g ≠ [] → w'.heap[b]? = w.heap[b]?) (hb : ∀ b, By b → w'.heap[b]? = w.heap[b]?) (hB : ∀ b, By b → By' b) (hB' : ∀ b, b < w.heap.size → By' b → By b) : GoE w' By' lo at2 b g := by
  obtain ⟨vd, vm, ⟨h0, h1, h2, h3, h4, h5⟩, h6, h7, h8⟩ := h
  exact ⟨vd, vm, ⟨by rw [ha 0 (by decide)]; exact h0, by rw [ha 1 (by decide)]; exact h1, by rw [ha 2 (by decide)]; exact h2, by rw [ha 3 (by decide)]; exact h3, by rw [ha 4 (by decide)]; exact h4, by rw [ha 5 (by decide)]; exact h5⟩, h6, (h7.frame hb).mono hB, h8.frame hf (hB' b)⟩
/-- what else may turn: blocks of another type; bytes may come -/
theorem GoS.but {w w' : World} {By By' : Nat → Prop} {lo : Nat} {B : Option Addr} {d : Nat} {gs : List GoTy.T} {t : TypeId} (h : GoS w By lo B d gs) (ht1 : 64 ≠ t) (ht2 : 3 ≠ t) (hb : But t w w') (hB : ∀ b, By b → w'.heap[b]? = w.heap[b]?) (hBB : ∀ b, By b → By' b) (hBn : ∀ b, b < w.heap.size → By' b → By b) : GoS w' By' lo B d gs := by
  rcases h with h | ⟨G, o, cells, bf, h1, h2, h3, h4, h5⟩
  · exact .inl h
  · refine .inr ⟨G, o, cells, bf, h1, h2.but hb ht1, ⟨h3.1, fun h => h3.2.1 (hBn G h2.lt h), h3.2.2⟩, fun j hj => ?_, h5⟩
    obtain ⟨vd, vm, k0, k1, k2, k3⟩ := h4 j hj
    refine ⟨vd, vm, k0, k1, (k2.frame hB).mono hBB, ?_⟩
    obtain ⟨m0, A, c, m1, m2, m3, m4, m5⟩ := k3
    refine ⟨m0, A, c, m1, m2, m3, m4, ?_⟩
    rcases m5 with m5 | ⟨o', cur, m6, m7, m8, m9⟩
    · exact .inl m5
    · exact .inr ⟨o', cur, m6, m7.but hb ht2, ⟨m8.1, fun h => m8.2 (hBn _ m7.lt h)⟩, m9⟩
theorem MayS.mono {w w' : World} {By By' : Nat → Prop} {lo R : Nat} {ys : List (List (List UInt8))} (h : MayS w By lo R ys) (hb : Below w.heap.size w w') (hlt : ∀ b, By b → b < w.heap.size) (hBB : ∀ b, By b → By' b) (hBn : ∀ b, b < w.heap.size → By' b → By b) : MayS w' By' lo R ys := by
  obtain ⟨cells, gf, of, cf, h1, h2, h3, h4⟩ := h
  refine ⟨cells, gf, of, cf, h1.next hb, ⟨h2.1, fun h => h2.2 (hBn _ h1.lt h)⟩, fun i hi => ⟨(h3 i hi).1, ?_⟩, h4⟩
  have hl := (h3 i hi).2.lt
  refine (h3 i hi).2.frame (hb.block _ hl) (fun b hb' => hb.block b (hlt b hb')) hBB (fun h => ?_)
  obtain ⟨cur, _, _, _, _, k5, _⟩ := (h3 i hi).2
  exact k5.2 (hBn _ hl h)
theorem GoS.mono {w w' : World} {By By' : Nat → Prop} {lo : Nat} {B : Option Addr} {d : Nat} {gs : List GoTy.T} (h : GoS w By lo B d gs) (hb : Below w.heap.size w w') (hlt : ∀ b, By b → b < w.heap.size) (hBB : ∀ b, By b → By' b) (hBn : ∀ b, b < w.heap.size → By' b → By b) : GoS w' By' lo B d gs :=
  h.but (t := 29) (by decide) (by decide) (But.of_below hb) (fun b hb' => hb.block b (hlt b hb')) hBB hBn
theorem MkS.rdin {w : World} {By : Nat → Prop} {lo : Nat} {v : Value} {b : Nat} {ms : List Int} (h : MkS w By lo v b ms) : RdIn w (NewB lo w) (.sl .int) ms [v] := by
  obtain ⟨h0, A, c, rfl, h2, h3, h4, h5⟩ := h
  refine rdin_sl.2 ⟨_, _, rfl, h2, h3, h4, ?_⟩
  rcases h5 with rfl | ⟨o, cur, h6, h7, h8, h9⟩
  · exact .inl rfl
  · refine .inr ⟨b, o, h6, ⟨h8.1, h7.lt, _, _, h7⟩, fun i hi => ⟨[.int .i64 (ms[i]'hi)], fun j hj => ?_, rdin_int.2 ⟨rfl, h0 _ (List.getElem_mem hi)⟩⟩⟩
    have hj0 : j = 0 := by have : j < 1 := hj; omega
    subst hj0
    show w.cell? ⟨b, o + i * 1 + 0, none⟩ = _
    rw [Nat.mul_one, Nat.add_zero, h7.cell]
    exact h9 i hi
theorem going_mk' {w : World} {S : Nat → Prop} {g : GoTy.T} {v u : Value} (h0 : IsInt (nuOf g)) (h1 : IsInt (atOf g)) (h2 : IsInt (manyOf g)) (h : RdIn w S (.sl .byte) (datOf g) [v]) (h3 : RdIn w S (.sl .int) (mksOf g) [u]) : RdIn w S GoTy g [.int .i64 (nuOf g), .int .u8 ((kiOf g).toNat : Int), .int .i64 (atOf g), .int .i64 (manyOf g), v, u] := by
  obtain ⟨nu, ⟨ki, a, y, bs, x⟩, ms, z⟩ := g
  exact going_mk h0 h1 h2 h h3
theorem GoS.rdin {w : World} {By : Nat → Prop} {lo : Nat} {B : Option Addr} {gs : List GoTy.T} {d : Nat} (h : GoS w By lo B d gs) (hc : gs.length ≤ d ∧ d ≤ maxLen) (hl : gs.length ≤ 1000) (hB : ∀ b, By b → NewB lo w b) : RdIn w (NewB lo w) (.sl GoTy) gs [.slice B gs.length d] := by
  refine rdin_sl.2 ⟨_, _, rfl, hc.1, hc.2, by show gs.length * 80 ≤ _; omega, ?_⟩
  rcases h with h | ⟨G, o, cells, bf, h1, h2, h3, h4, h5⟩
  · exact .inl h
  · refine .inr ⟨G, o, h1, ⟨h3.1, h2.lt, _, _, h2⟩, fun j hj => ?_⟩
    obtain ⟨vd, vm, ⟨k0, k1, k2, k3, k4, k5⟩, ⟨i0, i1, i2⟩, k7, k8⟩ := h4 j hj
    refine ⟨[.int .i64 (nuOf (gs[j]'hj)), .int .u8 ((kiOf (gs[j]'hj)).toNat : Int), .int .i64 (atOf (gs[j]'hj)), .int .i64 (manyOf (gs[j]'hj)), vd, vm], fun q hq => ?_, ?_⟩
    · have hq6 : q < 6 := hq
      show w.cell? ⟨G, o + j * 6 + q, none⟩ = _
      rw [h2.cell]
      have : q = 0 ∨ q = 1 ∨ q = 2 ∨ q = 3 ∨ q = 4 ∨ q = 5 := by omega
      rcases this with rfl | rfl | rfl | rfl | rfl | rfl
      · exact k0
      · exact k1
      · exact k2
      · exact k3
      · exact k4
      · exact k5
    · exact going_mk' i0 i1 i2 (k7.mono hB) k8.rdin
end Go.Proofs.Ytclbihcggjjgaaa
/- Layer 30 (model): slices.Delete over rows and over requests. -/
namespace Go.Proofs.Ytclbihcggjjgaaa
open Go Go.RowKit
set_option linter.unusedVariables false
set_option linter.unusedSimpArgs false

theorem box_setCells {g : Nat} {t : TypeId} : ∀ (vs : List Value) (o : Nat) (w : World) (cur : Array Value), BoxOf w g cur t → o + vs.length ≤ cur.size →
    ∃ cur' : Array Value, BoxOf (w.setCells g o vs) g cur' t ∧ cur'.size = cur.size ∧ ∀ q, cur'.toList[q]? = if o ≤ q ∧ q < o + vs.length then vs[q - o]? else cur.toList[q]?
  | [], o, w, cur, h, _ => ⟨cur, h, rfl, fun q => by rw [if_neg (by simp; try omega)]⟩
  | v :: r, o, w, cur, h, hl => by
    have hl' : o + (r.length + 1) ≤ cur.size := hl
    obtain ⟨cur', h1, h2, h3⟩ := box_setCells r (o + 1) (w.setCell ⟨g, o, none⟩ v) (cur.setIfInBounds o v) (mbox_self h o v) (by rw [Array.size_setIfInBounds]; omega)
    refine ⟨cur', h1, by rw [h2, Array.size_setIfInBounds], fun q => ?_⟩
    rw [h3, List.length_cons, Array.toList_setIfInBounds]
    by_cases h4 : o + 1 ≤ q ∧ q < o + 1 + r.length
    · rw [if_pos h4, if_pos (by omega), show q - o = (q - (o + 1)) + 1 by omega, List.getElem?_cons_succ]
    · rw [if_neg h4]
      by_cases h5 : q = o
      · subst h5
        rw [if_pos (by omega), Nat.sub_self, List.getElem?_cons_zero, List.getElem?_set_self (by rw [Array.length_toList]; omega)]
      · rw [if_neg (by omega), List.getElem?_set_ne (fun e => h5 e.symm)]
theorem grown_setCells (g : Nat) : ∀ (vs : List Value) (o : Nat) (w : World), w.grownBy (w.setCells g o vs) (some g)
  | [], o, w => World.grownBy.refl w _
  | v :: r, o, w => by
    have h := grown_setCells g r (o + 1) (w.setCell ⟨g, o, none⟩ v)
    refine ⟨h.os, h.tape, h.output, by have := h.size; rwa [msize] at this, fun k hk hne => ?_⟩
    refine (h.block k (by rw [msize]; exact hk) hne).trans (Below.heap_setCell _ _ _ _ (fun e => hne (by rw [e])))
theorem run_clear_any {P : Program} (w : World) (t e ty : TypeId) (z : Value) (ht : P.underlying t = some (.slice e)) (hv : ∀ w, (zeroValue e).run P w = .ok z w) (sz : Nat) (hz : z.cells.size = sz) (h1 : ∀ i, i < z.cells.size → (z.cells[i]!).oneCell' = true) (b o n c : Nat) (hn : 0 < n)
    (hc : ∀ j, j < n * sz → (w.cell? ⟨b, o + j, none⟩).isSome = true) (hf : ∀ j, j < n * sz → w.frozen? ⟨b, o + j, none⟩ = false) :
    (Builtin.clear_ #[t] ty #[.slice (some ⟨b, o, none⟩) n c]).run P w = .ok (.tuple #[]) (w.setCells b o (Builtin.zeroCells z.cells n).toList) := by
  have hl : (Builtin.zeroCells z.cells n).toList.length = n * sz := by rw [Array.length_toList, size_zeroCells, hz]
  have hst := run_storeCells_cells (P := P) b o (Builtin.zeroCells z.cells n).toList 0 w (by rw [hl]; simpa using hc) (by rw [hl]; simpa using hf) (by
    intro v hv'
    unfold Builtin.zeroCells at hv'
    simp only [Array.toList_map, List.mem_map] at hv'
    obtain ⟨i, hi, rfl⟩ := hv'
    refine h1 _ (Nat.mod_lt _ ?_)
    rw [Array.mem_toList_iff, Array.mem_range] at hi
    exact Nat.pos_of_ne_zero fun e => by rw [e, Nat.mul_zero] at hi; omega)
  simp only [Nat.add_zero] at hst
  obtain ⟨m, rfl⟩ : ∃ m, n = m + 1 := ⟨n - 1, by omega⟩
  simp [Builtin.clear_, run_underlying ht, hv, hst]
/-- what Delete does to a row of n elements -/
def DelIs (g o sz n i j : Nat) (cur : Array Value) (t : TypeId) (w w' : World) : Prop :=
  w.grownBy w' (some g) ∧ ∃ cur' : Array Value, BoxOf w' g cur' t ∧ cur'.size = cur.size ∧ ∀ q, q < (n - (j - i)) * sz → cur'.toList[o + q]? = cur.toList[o + (if q < i * sz then q else q + (j - i) * sz)]?

set_option maxHeartbeats 4000000 in
set_option maxRecDepth 1000000 in
theorem delL_any (g o n c i j : Nat) (cur : Array Value) (w : World) (hB : BoxOf w g cur 29) (hn : n ≤ c) (hm : c ≤ maxLen) (hoc : o + c * 1 ≤ cur.size) (hij : i ≤ j) (hj : j ≤ n) (hone : ∀ q, q < n * 1 → ∃ u, cur.toList[o + q]? = some u ∧ u.oneCell' = true) :
    Calls Try.prog 88 #[.slice (some ⟨g, o, none⟩) n c, .int .i64 (i : Int), .int .i64 (j : Int)] w fun e w' => e = .returned (.slice (some ⟨g, o, none⟩) (n - (j - i)) c) ∧ DelIs g o 1 n i j cur 29 w w' := by
  by_cases heq : i = j
  · subst heq
    have hi : i ≤ n := hj
    have h0 : Calls Try.prog 88 #[.slice (some ⟨g, o, none⟩) n c, .int .i64 (i : Int), .int .i64 (i : Int)] w fun e w' => e = .returned (.slice (some ⟨g, o, none⟩) n c) ∧ w' = w := by
      clear hB hone
      have hc9 : i ≤ c := by omega
      have hm9 : c ≤ 9223372036854775807 := hm
      go_enter Try.func88, Try.ntmps88
      go_wp2
      all_goals (go_ret; exact ⟨rfl, rfl⟩)
    refine h0.mono ?_
    rintro e w' ⟨rfl, rfl⟩
    exact ⟨by rw [Nat.sub_self, Nat.sub_zero], World.grownBy.refl _ _, cur, hB, rfl, fun q hq => by
      have e1 : (if q < i * 1 then q else q + (i - i) * 1) = q := by rw [Nat.sub_self]; simp
      rw [e1]⟩
  · have hlt : i < j := by omega
    obtain ⟨news, hnews⟩ : ∃ news, news = (cur.toList.drop (o + j * 1)).take ((n - j) * 1) := ⟨_, rfl⟩
    have hjn : j * 1 + (n - j) * 1 = n * 1 := by rw [← Nat.add_mul]; congr 1; omega
    have hnc : n * 1 ≤ c * 1 := Nat.mul_le_mul_right _ hn
    have hlen : news.length = (n - j) * 1 := by rw [hnews, List.length_take, List.length_drop, Array.length_toList]; omega
    have hget : ∀ t, t < (n - j) * 1 → news[t]? = cur.toList[o + j * 1 + t]? := by
      intro t ht
      rw [hnews, List.getElem?_take, if_pos ht, List.getElem?_drop]
    obtain ⟨A, hA, hsrc⟩ : ∃ A : Addr, (if c = j then some (⟨g, o, none⟩ : Addr) else some ⟨g, o + j * 1, none⟩) = some A ∧ Hid (∀ t u, news[t]? = some u → w.drew.cell? (A.add t) = some u) := by
      by_cases h : c = j
      · refine ⟨⟨g, o, none⟩, by simp [h], fun t u hu => ?_⟩
        have h0 : news.length = 0 := by rw [hlen, show n - j = 0 by omega, Nat.zero_mul]
        rw [List.length_eq_zero_iff.1 h0] at hu
        simp at hu
      · refine ⟨⟨g, o + j * 1, none⟩, by simp [h], fun t u hu => ?_⟩
        have ht : t < (n - j) * 1 := by
          have := (List.getElem?_eq_some_iff.1 hu).1
          rwa [hlen] at this
        rw [hget t ht] at hu
        rw [Addr.add_lit]
        exact (hB.drew.cell _).trans hu
    have s1 : Hid (news.length = (n - j) * 1) := hlen
    have s2 : Hid (∀ u ∈ news, u.oneCell' = true) := by
      intro u hu
      obtain ⟨t, ht, rfl⟩ := List.getElem_of_mem hu
      have ht' : t < (n - j) * 1 := by rw [← hlen]; exact ht
      have h1 := hget t ht'
      rw [List.getElem?_eq_getElem ht] at h1
      obtain ⟨u, hu1, hu2⟩ := hone (j * 1 + t) (by omega)
      rw [← Nat.add_assoc] at hu1
      rw [hu1] at h1
      rw [Option.some.inj h1]
      exact hu2
    have hij5 : i * 1 + (n - j) * 1 ≤ n * 1 := by rw [← Nat.add_mul]; exact Nat.mul_le_mul_right _ (by omega)
    have s3 : Hid (∀ t, t < news.length → (w.drew.cell? ⟨g, o + i * 1 + t, none⟩).isSome = true ∧ w.drew.frozen? ⟨g, o + i * 1 + t, none⟩ = false) := by
      intro t ht
      rw [hlen] at ht
      refine ⟨?_, hB.drew.free _⟩
      rw [hB.drew.cell, List.getElem?_eq_getElem (by rw [Array.length_toList]; omega)]
      rfl
    obtain ⟨W1, hW1⟩ : ∃ W1, W1 = w.drew.setCells g (o + i * 1) news := ⟨_, rfl⟩
    obtain ⟨cur1, b1, b2, b3⟩ := box_setCells news (o + i * 1) w.drew cur hB.drew (by omega)
    have g1 := grown_setCells g news (o + i * 1) w.drew
    rw [← hW1] at b1 g1
    obtain ⟨zs, hzs⟩ : ∃ zs, zs = (Builtin.zeroCells (Value.slice none 0 0).cells (n - (i + (n - j)))).toList := ⟨_, rfl⟩
    have hzl : zs.length = (j - i) * 1 := by
      rw [hzs, Array.length_toList, size_zeroCells, show (Value.slice none 0 0).cells.size = 1 from rfl, show n - (i + (n - j)) = j - i by omega]
    have e5 : o + (i + (n - j)) * 1 = o + i * 1 + (n - j) * 1 := by rw [Nat.add_mul, Nat.add_assoc]
    have hcz : i * 1 + (n - j) * 1 + (j - i) * 1 = n * 1 := by rw [← Nat.add_mul, ← Nat.add_mul]; congr 1; omega
    obtain ⟨cur2, d1, d2, d3⟩ := box_setCells zs (o + (i + (n - j)) * 1) W1 cur1 b1 (by omega)
    have g2 := grown_setCells g zs (o + (i + (n - j)) * 1) W1
    have HX : Hid (DelIs g o 1 n i j cur 29 w (W1.setCells g (o + (i + (n - j)) * 1) zs)) := by
      refine ⟨⟨g2.os.trans g1.os, g2.tape.trans g1.tape, g2.output.trans g1.output, Nat.le_trans g1.size g2.size, fun k hk hne => (g2.block k (Nat.lt_of_lt_of_le hk g1.size) hne).trans (g1.block k hk hne)⟩, cur2, d1, by rw [d2, b2], fun q hq => ?_⟩
      have hq' : q < i * 1 + (n - j) * 1 := by rw [show n - (j - i) = i + (n - j) by omega, Nat.add_mul] at hq; exact hq
      rw [d3, if_neg (by omega), b3]
      by_cases h : q < i * 1
      · rw [if_neg (by omega), if_pos h]
      · rw [if_pos (by omega), if_neg h, show o + q - (o + i * 1) = q - i * 1 by omega, hget _ (by omega)]
        congr 1
        have : (j - i) * 1 = j * 1 - i * 1 := Nat.sub_mul _ _ _
        have : i * 1 ≤ j * 1 := Nat.mul_le_mul_right _ hij
        omega
    have hzv : ∀ w, (zeroValue 29).run Try.prog w = .ok (Value.slice none 0 0) w := fun w => by rfl
    have hcl : ∀ ty, (Builtin.clear_ #[30] ty #[.slice (some ⟨g, o + (i + (n - j)) * 1, none⟩) (n - (i + (n - j))) (c - (i + (n - j)))]).run Try.prog W1 = .ok (.tuple #[]) (W1.setCells g (o + (i + (n - j)) * 1) zs) := by
      intro ty
      rw [hzs]
      exact run_clear_any W1 _ _ ty _ Try.underlying30 hzv 1 rfl (by decide) g (o + (i + (n - j)) * 1) _ _ (by omega) (fun t ht => by
        rw [b1.cell, List.getElem?_eq_getElem (by rw [Array.length_toList, b2]; rw [show n - (i + (n - j)) = j - i by omega] at ht; omega)]
        rfl) (fun t ht => b1.free _)
    obtain ⟨i0, hi0, hi1, hi2, hi3⟩ := minfo_bytes
    try simp only [Nat.mul_one] at hcl HX
    have hW : Hid (W1 = w.drew.setCells g (o + i * 1) news) := hW1
    have hic : i ≤ c := by omega
    have hjc : j ≤ c := by omega
    have hm9 : c ≤ 9223372036854775807 := hm
    clear hW1 hB hget hnews hlen hone b1 b2 b3 g1 g2 d1 d2 d3 hzl hzs e5 hcz hzv hjn hnc hij5
    go_enter Try.func88, Try.ntmps88
    go_wp2_with fail
    go_region_law (refine step_append_room rfl (.tmp 22) (.tmp 25) 30 rfl 29 i0 1 Try.underlying30 hi0 hi2 g o i c (by simp [Act.eval, Act.put]) A (n - j) (c - j) news (by simp [Act.eval, Act.put] <;> simpa using hA) s1.out hsrc.out s2.out (by omega) s3.out ?_; rw [← hW.out])
    go_wp2
    all_goals (go_ret; exact ⟨by rw [show n - (j - i) = i + (n - j) by omega]; rfl, HX.out⟩)
set_option maxHeartbeats 4000000 in
set_option maxRecDepth 1000000 in
theorem delG_any (g o n c i j : Nat) (cur : Array Value) (w : World) (hB : BoxOf w g cur 64) (hn : n ≤ c) (hm : c ≤ maxLen) (hoc : o + c * 6 ≤ cur.size) (hij : i ≤ j) (hj : j ≤ n) (hone : ∀ q, q < n * 6 → ∃ u, cur.toList[o + q]? = some u ∧ u.oneCell' = true) :
    Calls Try.prog 58 #[.slice (some ⟨g, o, none⟩) n c, .int .i64 (i : Int), .int .i64 (j : Int)] w fun e w' => e = .returned (.slice (some ⟨g, o, none⟩) (n - (j - i)) c) ∧ DelIs g o 6 n i j cur 64 w w' := by
  by_cases heq : i = j
  · subst heq
    have hi : i ≤ n := hj
    have h0 : Calls Try.prog 58 #[.slice (some ⟨g, o, none⟩) n c, .int .i64 (i : Int), .int .i64 (i : Int)] w fun e w' => e = .returned (.slice (some ⟨g, o, none⟩) n c) ∧ w' = w := by
      clear hB hone
      have hc9 : i ≤ c := by omega
      have hm9 : c ≤ 9223372036854775807 := hm
      go_enter Try.func58, Try.ntmps58
      go_wp2
      all_goals (go_ret; exact ⟨rfl, rfl⟩)
    refine h0.mono ?_
    rintro e w' ⟨rfl, rfl⟩
    exact ⟨by rw [Nat.sub_self, Nat.sub_zero], World.grownBy.refl _ _, cur, hB, rfl, fun q hq => by
      have e1 : (if q < i * 6 then q else q + (i - i) * 6) = q := by rw [Nat.sub_self]; simp
      rw [e1]⟩
  · have hlt : i < j := by omega
    obtain ⟨news, hnews⟩ : ∃ news, news = (cur.toList.drop (o + j * 6)).take ((n - j) * 6) := ⟨_, rfl⟩
    have hjn : j * 6 + (n - j) * 6 = n * 6 := by rw [← Nat.add_mul]; congr 1; omega
    have hnc : n * 6 ≤ c * 6 := Nat.mul_le_mul_right _ hn
    have hlen : news.length = (n - j) * 6 := by rw [hnews, List.length_take, List.length_drop, Array.length_toList]; omega
    have hget : ∀ t, t < (n - j) * 6 → news[t]? = cur.toList[o + j * 6 + t]? := by
      intro t ht
      rw [hnews, List.getElem?_take, if_pos ht, List.getElem?_drop]
    obtain ⟨A, hA, hsrc⟩ : ∃ A : Addr, (if c = j then some (⟨g, o, none⟩ : Addr) else some ⟨g, o + j * 6, none⟩) = some A ∧ Hid (∀ t u, news[t]? = some u → w.drew.cell? (A.add t) = some u) := by
      by_cases h : c = j
      · refine ⟨⟨g, o, none⟩, by simp [h], fun t u hu => ?_⟩
        have h0 : news.length = 0 := by rw [hlen, show n - j = 0 by omega, Nat.zero_mul]
        rw [List.length_eq_zero_iff.1 h0] at hu
        simp at hu
      · refine ⟨⟨g, o + j * 6, none⟩, by simp [h], fun t u hu => ?_⟩
        have ht : t < (n - j) * 6 := by
          have := (List.getElem?_eq_some_iff.1 hu).1
          rwa [hlen] at this
        rw [hget t ht] at hu
        rw [Addr.add_lit]
        exact (hB.drew.cell _).trans hu
    have s1 : Hid (news.length = (n - j) * 6) := hlen
    have s2 : Hid (∀ u ∈ news, u.oneCell' = true) := by
      intro u hu
      obtain ⟨t, ht, rfl⟩ := List.getElem_of_mem hu
      have ht' : t < (n - j) * 6 := by rw [← hlen]; exact ht
      have h1 := hget t ht'
      rw [List.getElem?_eq_getElem ht] at h1
      obtain ⟨u, hu1, hu2⟩ := hone (j * 6 + t) (by omega)
      rw [← Nat.add_assoc] at hu1
      rw [hu1] at h1
      rw [Option.some.inj h1]
      exact hu2
    have hij5 : i * 6 + (n - j) * 6 ≤ n * 6 := by rw [← Nat.add_mul]; exact Nat.mul_le_mul_right _ (by omega)
    have s3 : Hid (∀ t, t < news.length → (w.drew.cell? ⟨g, o + i * 6 + t, none⟩).isSome = true ∧ w.drew.frozen? ⟨g, o + i * 6 + t, none⟩ = false) := by
      intro t ht
      rw [hlen] at ht
      refine ⟨?_, hB.drew.free _⟩
      rw [hB.drew.cell, List.getElem?_eq_getElem (by rw [Array.length_toList]; omega)]
      rfl
    obtain ⟨W1, hW1⟩ : ∃ W1, W1 = w.drew.setCells g (o + i * 6) news := ⟨_, rfl⟩
    obtain ⟨cur1, b1, b2, b3⟩ := box_setCells news (o + i * 6) w.drew cur hB.drew (by omega)
    have g1 := grown_setCells g news (o + i * 6) w.drew
    rw [← hW1] at b1 g1
    obtain ⟨zs, hzs⟩ : ∃ zs, zs = (Builtin.zeroCells (Value.agg #[.int .i64 0, .int .u8 0, .int .i64 0, .int .i64 0, .slice none 0 0, .slice none 0 0]).cells (n - (i + (n - j)))).toList := ⟨_, rfl⟩
    have hzl : zs.length = (j - i) * 6 := by
      rw [hzs, Array.length_toList, size_zeroCells, show (Value.agg #[.int .i64 0, .int .u8 0, .int .i64 0, .int .i64 0, .slice none 0 0, .slice none 0 0]).cells.size = 6 from rfl, show n - (i + (n - j)) = j - i by omega]
    have e5 : o + (i + (n - j)) * 6 = o + i * 6 + (n - j) * 6 := by rw [Nat.add_mul, Nat.add_assoc]
    have hcz : i * 6 + (n - j) * 6 + (j - i) * 6 = n * 6 := by rw [← Nat.add_mul, ← Nat.add_mul]; congr 1; omega
    obtain ⟨cur2, d1, d2, d3⟩ := box_setCells zs (o + (i + (n - j)) * 6) W1 cur1 b1 (by omega)
    have g2 := grown_setCells g zs (o + (i + (n - j)) * 6) W1
    have HX : Hid (DelIs g o 6 n i j cur 64 w (W1.setCells g (o + (i + (n - j)) * 6) zs)) := by
      refine ⟨⟨g2.os.trans g1.os, g2.tape.trans g1.tape, g2.output.trans g1.output, Nat.le_trans g1.size g2.size, fun k hk hne => (g2.block k (Nat.lt_of_lt_of_le hk g1.size) hne).trans (g1.block k hk hne)⟩, cur2, d1, by rw [d2, b2], fun q hq => ?_⟩
      have hq' : q < i * 6 + (n - j) * 6 := by rw [show n - (j - i) = i + (n - j) by omega, Nat.add_mul] at hq; exact hq
      rw [d3, if_neg (by omega), b3]
      by_cases h : q < i * 6
      · rw [if_neg (by omega), if_pos h]
      · rw [if_pos (by omega), if_neg h, show o + q - (o + i * 6) = q - i * 6 by omega, hget _ (by omega)]
        congr 1
        have : (j - i) * 6 = j * 6 - i * 6 := Nat.sub_mul _ _ _
        have : i * 6 ≤ j * 6 := Nat.mul_le_mul_right _ hij
        omega
    have hzv : ∀ w, (zeroValue 64).run Try.prog w = .ok (Value.agg #[.int .i64 0, .int .u8 0, .int .i64 0, .int .i64 0, .slice none 0 0, .slice none 0 0]) w := fun w => by rfl
    have hcl : ∀ ty, (Builtin.clear_ #[26] ty #[.slice (some ⟨g, o + (i + (n - j)) * 6, none⟩) (n - (i + (n - j))) (c - (i + (n - j)))]).run Try.prog W1 = .ok (.tuple #[]) (W1.setCells g (o + (i + (n - j)) * 6) zs) := by
      intro ty
      rw [hzs]
      exact run_clear_any W1 _ _ ty _ Try.underlying26 hzv 6 rfl (by decide) g (o + (i + (n - j)) * 6) _ _ (by omega) (fun t ht => by
        rw [b1.cell, List.getElem?_eq_getElem (by rw [Array.length_toList, b2]; rw [show n - (i + (n - j)) = j - i by omega] at ht; omega)]
        rfl) (fun t ht => b1.free _)
    obtain ⟨i0, hi0, hi1, hi2, hi3⟩ := minfo_going
    try simp only [Nat.mul_one] at hcl HX
    have hW : Hid (W1 = w.drew.setCells g (o + i * 6) news) := hW1
    have hic : i ≤ c := by omega
    have hjc : j ≤ c := by omega
    have hm9 : c ≤ 9223372036854775807 := hm
    clear hW1 hB hget hnews hlen hone b1 b2 b3 g1 g2 d1 d2 d3 hzl hzs e5 hcz hzv hjn hnc hij5
    go_enter Try.func58, Try.ntmps58
    go_wp2_with fail
    go_region_law (refine step_append_room rfl (.tmp 22) (.tmp 25) 26 rfl 64 i0 6 Try.underlying26 hi0 hi2 g o i c (by simp [Act.eval, Act.put]) A (n - j) (c - j) news (by simp [Act.eval, Act.put] <;> simpa using hA) s1.out hsrc.out s2.out (by omega) s3.out ?_; rw [← hW.out])
    go_wp2
    all_goals (go_ret; exact ⟨by rw [show n - (j - i) = i + (n - j) by omega]; rfl, HX.out⟩)
end Go.Proofs.Ytclbihcggjjgaaa
