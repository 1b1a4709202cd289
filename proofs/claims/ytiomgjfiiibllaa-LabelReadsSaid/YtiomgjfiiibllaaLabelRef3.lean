/- Layer 9 (label): the reference's Write and Read. -/
import Derived.Test.YtiomgjfiiibllaaLabelRef2
import Derived.Deep.DeepCutAuto
namespace Go.Proofs.Ytiomgjfiiibllaa
open Go Go.RowKit
set_option linter.unusedSimpArgs false
set_option linter.unusedVariables false

theorem Bs.setElse {w : World} {g k n : Nat} {bs : List UInt8} (h : Bs w (some ⟨g, 0, none⟩) n bs) (hk : g ≠ k) (i : Nat) (v : Value) : Bs (w.setCell ⟨k, i, none⟩ v) (some ⟨g, 0, none⟩) n bs := by
  refine ⟨h.1, ?_⟩
  rcases h.2 with h2 | ⟨b, off, hA, hc⟩
  · exact .inl h2
  · injection hA with hA
    injection hA with e1 e2
    subst e1 e2
    exact .inr ⟨g, 0, rfl, fun j hj => (World.cell?_of_block (w := w) (a := ⟨g, 0 + j, none⟩) (Below.heap_setCell w ⟨k, i, none⟩ v g hk)).trans (hc j hj)⟩

theorem rlwrite_ok (id ev m c r l me lo dn : Nat) (op : Bool) (hi : id < 4294967296) (he : ev < 4294967296) (hok : (lab id ev m c r l me lo dn op).Ok) (w : World) :
    Calls Try.prog 11 #[.agg #[.int .u32 (id : Int), .int .u32 (ev : Int), .int .i64 (m : Int), .int .i64 (c : Int), .int .i64 (r : Int), .int .i64 (l : Int), .int .i64 (me : Int), .int .i64 (lostI lo), .int .i64 (dn : Int), .bool op]] w fun e w' => ∃ A q, e = .returned (.tuple #[.slice A 128 q, .int .i64 0]) ∧ Bs w' A 128 (labBlock id ev m c r l me lo dn op) ∧ Below w.heap.size w w' := by
  have hm := rlmay_ok _ hok
  rw [lab_cells] at hm
  have HM := Lib.hid hm
  obtain ⟨h1, h2, h3, h4, h5, h6, h7, _⟩ := lab_small hok
  have HB := Lib.hid (rlblock_any id ev m c r l me lo dn op hi he h1 h2 h3 h4 h5 h6 h7)
  clear hm hok hi he h1 h2 h3 h4 h5 h6 h7
  go_enter Try.func11, Try.ntmps11
  go_wp2_with fail
  have A0 := BoxOf.new w #[.int .u32 (id : Int), .int .u32 (ev : Int), .int .i64 (m : Int), .int .i64 (c : Int), .int .i64 (r : Int), .int .i64 (l : Int), .int .i64 (me : Int), .int .i64 (lostI lo), .int .i64 (dn : Int), .bool op] 24
  have t0 := Ext.alloc (Below.refl w.heap.size w) (.cells #[.int .u32 (id : Int), .int .u32 (ev : Int), .int .i64 (m : Int), .int .i64 (c : Int), .int .i64 (r : Int), .int .i64 (l : Int), .int .i64 (me : Int), .int .i64 (lostI lo), .int .i64 (dn : Int), .bool op] 24)
  refine (HM.out _).mono ?_
  rintro e w1 ⟨rfl, b1⟩
  have A1 := A0.next b1
  have t1 := Ext.trans t0 b1
  have x1 := A1.cell
  clear A0 t0 b1
  go_wp2_with fail
  refine (HB.out _).mono ?_
  rintro e w2 ⟨A, q, rfl, hb, b2⟩
  go_wp2
  go_ret2
  exact ⟨_, _, rfl, hb, Ext.trans t1 b2⟩

theorem rlread_text (A : Option Addr) (n q : Nat) (h0 : n ≠ 0) (h1 : n ≠ 128) (w : World) :
    Calls Try.prog 17 #[.slice A n q] w fun e w' => e = .returned (.tuple #[.agg #[.int .u32 0, .int .u32 0, .int .i64 0, .int .i64 0, .int .i64 0, .int .i64 0, .int .i64 0, .int .i64 0, .int .i64 0, .bool false], .int .i64 3]) ∧ Below w.heap.size w w' := by
  have HB := Lib.hid (block_bad A n q h0 h1)
  clear h0 h1
  go_enter Try.func17, Try.ntmps17
  go_wp2_with fail
  have A0 := BoxOf.new w #[.int .u32 0, .int .u32 0, .int .i64 0, .int .i64 0, .int .i64 0, .int .i64 0, .int .i64 0, .int .i64 0, .int .i64 0, .bool false] 24
  have t0 := Ext.alloc (Below.refl w.heap.size w) (.cells #[.int .u32 0, .int .u32 0, .int .i64 0, .int .i64 0, .int .i64 0, .int .i64 0, .int .i64 0, .int .i64 0, .int .i64 0, .bool false] 24)
  refine (HB.out _).mono ?_
  rintro e w1 ⟨rfl, rfl⟩
  have B := Lib.hid A0
  clear A0
  go_wp2_with (refine wpList_store_rowTo rfl 24 (.tmp 2) (.tmp 9) rfl rfl w.heap.size #[.int .u32 0, .int .u32 0, .int .i64 0, .int .i64 0, .int .i64 0, .int .i64 0, .int .i64 0, .int .i64 0, .int .i64 0, .bool false] rfl rfl 24 #[.int .u32 0, .int .u32 0, .int .i64 0, .int .i64 0, .int .i64 0, .int .i64 0, .int .i64 0, .int .i64 0, .int .i64 0, .bool false] B.out (by kernel_rfl) rfl (by kernel_rfl) ?_)
  exact bodyPost_ret (v := .tuple #[.agg #[.int .u32 0, .int .u32 0, .int .i64 0, .int .i64 0, .int .i64 0, .int .i64 0, .int .i64 0, .int .i64 0, .int .i64 0, .bool false], .int .i64 3]) (Eq.trans (results_row2 (P := Try.prog) (fn := Try.f17) (p := 2) (u := 3) (ty := 24) rfl _ _ w.heap.size 24 #[.int .u32 0, .int .u32 0, .int .i64 0, .int .i64 0, .int .i64 0, .int .i64 0, .int .i64 0, .int .i64 0, .int .i64 0, .bool false] (0, 0) _ rfl (B.out.set _) Try.underlying24 rfl (by kernel_rfl)) rfl) rfl ⟨rfl, Ext.setRow t0 (Nat.le_refl _) _⟩

set_option maxRecDepth 100000 in
set_option maxHeartbeats 8000000 in
theorem rlread_core (A : Option Addr) (n q : Nat) (bs : List UInt8) (hn : n = 0 ∨ n = 128) (L : List UInt8) (hL : wholeL bs = L) (w : World) (hb : Bs w A n bs) (id ev m c r l me lo dn on : Nat) (op : Bool) (hop : ((on : Int) == 1) = op)
    (h1 : id = takeN L 1 4) (h2 : ev = takeN L 5 4) (h3 : m = takeN L 9 1) (h4 : c = takeN L 10 1) (h5 : r = takeN L 11 1) (h6 : l = takeN L 12 1) (h7 : me = takeN L 13 1) (h8 : lo = takeN L 14 1) (h9 : dn = takeN L 15 1) (h10 : on = takeN L 16 1)
    (R : Array Value) (C : Int) (hR' : (¬ (lab id ev m c r l me lo dn op).Ok ∧ R = #[.int .u32 0, .int .u32 0, .int .i64 0, .int .i64 0, .int .i64 0, .int .i64 0, .int .i64 0, .int .i64 0, .int .i64 0, .bool false] ∧ C = 90) ∨ ((lab id ev m c r l me lo dn op).Ok ∧ labBlock id ev m c r l me lo dn op ≠ L ∧ R = #[.int .u32 0, .int .u32 0, .int .i64 0, .int .i64 0, .int .i64 0, .int .i64 0, .int .i64 0, .int .i64 0, .int .i64 0, .bool false] ∧ C = 90) ∨ ((lab id ev m c r l me lo dn op).Ok ∧ labBlock id ev m c r l me lo dn op = L ∧ R = #[.int .u32 (id : Int), .int .u32 (ev : Int), .int .i64 (m : Int), .int .i64 (c : Int), .int .i64 (r : Int), .int .i64 (l : Int), .int .i64 (me : Int), .int .i64 (lostI lo), .int .i64 (dn : Int), .bool op] ∧ C = 0)) :
    Calls Try.prog 17 #[.slice A n q] w fun e w' => e = .returned (.tuple #[.agg R, .int .i64 C]) ∧ Below w.heap.size w w' := by
  have HB := Lib.hid (block_ok A n q hn)
  have HW := Lib.hid (fun W hW => rwhole_ok A n q bs hn W hW)
  have hL8 : L.length = 128 := by rw [← hL]; exact wholeL_len rfl (by rw [hb.1]; exact hn)
  rw [hL] at HW
  have hN : ∀ (g p : Nat) (W : World), p + 4 ≤ 128 → Bs W (some ⟨g, 0, none⟩) 128 L → Calls Try.prog 28 #[.slice (some ⟨g, 0, none⟩) 128 128, .int .i64 p] W fun e w' => e = .returned (.int .u32 (takeN L p 4)) ∧ Below W.heap.size W w' := by
    intro g p W hp hW
    have := rnum_any (some ⟨g, 0, none⟩) 128 128 L (.inr rfl) p hp W hW
    rw [wholeL_full hL8] at this
    exact this
  have n1 : ∀ (g : Nat) (W : World), Bs W (some ⟨g, 0, none⟩) 128 L → Calls Try.prog 28 #[.slice (some ⟨g, 0, none⟩) 128 128, .int .i64 1] W fun e w' => e = .returned (.int .u32 (takeN L 1 4)) ∧ Below W.heap.size W w' := fun g W h => hN g 1 W (by decide) h
  have n2 : ∀ (g : Nat) (W : World), Bs W (some ⟨g, 0, none⟩) 128 L → Calls Try.prog 28 #[.slice (some ⟨g, 0, none⟩) 128 128, .int .i64 5] W fun e w' => e = .returned (.int .u32 (takeN L 5 4)) ∧ Below W.heap.size W w' := fun g W h => hN g 5 W (by decide) h
  rw [← h1] at n1
  rw [← h2] at n2
  have N1 := Lib.hid n1
  have N2 := Lib.hid n2
  have HR := Lib.hid hR'
  have HOP := Lib.hid hop
  have i1 : id < 4294967296 := by rw [h1]; exact takeN_lt _ 1 4
  have i2 : ev < 4294967296 := by rw [h2]; exact takeN_lt _ 5 4
  have i3 : m < 256 := by rw [h3]; exact takeN_lt _ 9 1
  have i4 : c < 256 := by rw [h4]; exact takeN_lt _ 10 1
  have i5 : r < 256 := by rw [h5]; exact takeN_lt _ 11 1
  have i6 : l < 256 := by rw [h6]; exact takeN_lt _ 12 1
  have i7 : me < 256 := by rw [h7]; exact takeN_lt _ 13 1
  have i8 : lo < 256 := by rw [h8]; exact takeN_lt _ 14 1
  have i9 : dn < 256 := by rw [h9]; exact takeN_lt _ 15 1
  have i10 : on < 256 := by rw [h10]; exact takeN_lt _ 16 1
  have I := Lib.hid (And.intro i1 (And.intro i2 (And.intro i3 (And.intro i4 (And.intro i5 (And.intro i6 (And.intro i7 (And.intro i8 (And.intro i9 i10)))))))))
  have k9 : (L.getD 9 0).toNat = m := by rw [h3, takeN_one]
  have k10 : (L.getD 10 0).toNat = c := by rw [h4, takeN_one]
  have k11 : (L.getD 11 0).toNat = r := by rw [h5, takeN_one]
  have k12 : (L.getD 12 0).toNat = l := by rw [h6, takeN_one]
  have k13 : (L.getD 13 0).toNat = me := by rw [h7, takeN_one]
  have k14 : (L.getD 14 0).toNat = lo := by rw [h8, takeN_one]
  have k15 : (L.getD 15 0).toNat = dn := by rw [h9, takeN_one]
  have k16 : (L.getD 16 0).toNat = on := by rw [h10, takeN_one]
  clear hN n1 n2 h1 h2 h3 h4 h5 h6 h7 h8 h9 h10 hR' hL hn i1 i2 i3 i4 i5 i6 i7 i8 i9 i10 hop
  go_enter Try.func17, Try.ntmps17
  go_wp2_with fail
  have A0 := BoxOf.new w #[.int .u32 0, .int .u32 0, .int .i64 0, .int .i64 0, .int .i64 0, .int .i64 0, .int .i64 0, .int .i64 0, .int .i64 0, .bool false] 24
  have hb0 := hb.alloc (.cells #[.int .u32 0, .int .u32 0, .int .i64 0, .int .i64 0, .int .i64 0, .int .i64 0, .int .i64 0, .int .i64 0, .int .i64 0, .bool false] 24)
  have t0 := Ext.alloc (Below.refl w.heap.size w) (.cells #[.int .u32 0, .int .u32 0, .int .i64 0, .int .i64 0, .int .i64 0, .int .i64 0, .int .i64 0, .int .i64 0, .int .i64 0, .bool false] 24)
  generalize w.alloc (.cells #[.int .u32 0, .int .u32 0, .int .i64 0, .int .i64 0, .int .i64 0, .int .i64 0, .int .i64 0, .int .i64 0, .int .i64 0, .bool false] 24) = w0 at *
  refine (HB.out _).mono ?_
  rintro e w1 ⟨rfl, rfl⟩
  go_wp2_with fail
  refine (HW.out _ hb0).mono ?_
  rintro e w2 ⟨g, rfl, hg, ho, b2⟩
  have A2 := A0.next b2
  have t2 := Ext.trans t0 b2
  have c9 := ho.cell 9 (by decide)
  rw [k9] at c9
  have c10 := ho.cell 10 (by decide)
  rw [k10] at c10
  have c11 := ho.cell 11 (by decide)
  rw [k11] at c11
  have c12 := ho.cell 12 (by decide)
  rw [k12] at c12
  have c13 := ho.cell 13 (by decide)
  rw [k13] at c13
  have c14 := ho.cell 14 (by decide)
  rw [k14] at c14
  have c15 := ho.cell 15 (by decide)
  rw [k15] at c15
  have c16 := ho.cell 16 (by decide)
  rw [k16] at c16
  have hbL := ho.bs
  clear A0 hb0 t0 b2 ho k9 k10 k11 k12 k13 k14 k15 k16
  go_upto_region 4 with fail
  have I2 := I.out
  go_cut [5] (fun s5 wx => ∃ gx, s5 = .pointer (some ⟨gx, 0, none⟩) ∧ w.heap.size < gx ∧ BoxOf wx gx #[.int .u32 (id : Int), .int .u32 (ev : Int), .int .i64 (m : Int), .int .i64 (c : Int), .int .i64 (r : Int), .int .i64 (l : Int), .int .i64 (me : Int), .int .i64 (lo : Int), .int .i64 (dn : Int), .bool op] 24 ∧ BoxOf wx w.heap.size #[.int .u32 0, .int .u32 0, .int .i64 0, .int .i64 0, .int .i64 0, .int .i64 0, .int .i64 0, .int .i64 0, .int .i64 0, .bool false] 24 ∧ Bs wx (some ⟨g, 0, none⟩) 128 L ∧ Below w.heap.size w wx ∧ wx.cell? ⟨g, 14, none⟩ = some (.int .u8 (lo : Int)) ∧ g ≠ gx)
  case first =>
    refine wp_region_held_drew (S := fun w' => Below w.heap.size w w' ∧ Bs w' (some ⟨g, 0, none⟩) 128 L ∧ BoxOf w' w.heap.size #[.int .u32 0, .int .u32 0, .int .i64 0, .int .i64 0, .int .i64 0, .int .i64 0, .int .i64 0, .int .i64 0, .int .i64 0, .bool false] 24 ∧ w'.cell? ⟨g, 9, none⟩ = some (.int .u8 (m : Int)) ∧ w'.cell? ⟨g, 10, none⟩ = some (.int .u8 (c : Int)) ∧ w'.cell? ⟨g, 11, none⟩ = some (.int .u8 (r : Int)) ∧ w'.cell? ⟨g, 12, none⟩ = some (.int .u8 (l : Int)) ∧ w'.cell? ⟨g, 13, none⟩ = some (.int .u8 (me : Int)) ∧ w'.cell? ⟨g, 14, none⟩ = some (.int .u8 (lo : Int)) ∧ w'.cell? ⟨g, 15, none⟩ = some (.int .u8 (dn : Int)) ∧ w'.cell? ⟨g, 16, none⟩ = some (.int .u8 (on : Int))) (by kernel_rfl) ⟨Ext.drew t2, hbL, A2.drew, c9, c10, c11, c12, c13, c14, c15, c16⟩ (fun hS => ?_)
    clear t2 hbL A2 c9 c10 c11 c12 c13 c14 c15 c16
    generalize w2.drew = v at hS ⊢
    obtain ⟨i1, i2, i3, i4, i5, i6, i7, i8, i9, i10⟩ := I2
    have q9 : IntKind.i64.wrap (m : Int) = (m : Int) := i64_fit (by omega)
    have q10 : IntKind.i64.wrap (c : Int) = (c : Int) := i64_fit (by omega)
    have q11 : IntKind.i64.wrap (r : Int) = (r : Int) := i64_fit (by omega)
    have q12 : IntKind.i64.wrap (l : Int) = (l : Int) := i64_fit (by omega)
    have q13 : IntKind.i64.wrap (me : Int) = (me : Int) := i64_fit (by omega)
    have q14 : IntKind.i64.wrap (lo : Int) = (lo : Int) := i64_fit (by omega)
    have q15 : IntKind.i64.wrap (dn : Int) = (dn : Int) := i64_fit (by omega)
    have hop := HOP.out
    clear i1 i2 i3 i4 i5 i6 i7 i8 i9 i10
    refine wpAnyH_take (i := 0) (oi := _) (v := ?_) rfl (by kernel_rfl) (by kernel_rfl) (by kernel_rfl) (fun _ _ _ h => h) (Or.inl ⟨by rfl, ?_⟩) hS ?_
    rotate_left
    · (intro w hSw; (try dsimp only at hSw); go_simp; (try with_reducible rfl))
    rotate_left
    simp only [Act.put, List.getElem_toArray, List.getElem_cons_zero, List.getElem_cons_succ, List.setIfInBounds_toArray, List.set_cons_zero, List.set_cons_succ]
    refine wpAnyH_take (i := 2) (oi := _) (v := ?_) rfl (by kernel_rfl) (by kernel_rfl) (by kernel_rfl) (fun _ _ _ h => h) (Or.inl ⟨by rfl, ?_⟩) hS ?_
    rotate_left
    · (intro w hSw; (try dsimp only at hSw); go_simp; (try with_reducible rfl))
    rotate_left
    simp only [Act.put, List.getElem_toArray, List.getElem_cons_zero, List.getElem_cons_succ, List.setIfInBounds_toArray, List.set_cons_zero, List.set_cons_succ]
    refine wpAnyH_take (i := 4) (oi := _) (v := ?_) rfl (by kernel_rfl) (by kernel_rfl) (by kernel_rfl) (fun _ _ _ h => h) (Or.inl ⟨by rfl, ?_⟩) hS ?_
    rotate_left
    · (intro w hSw; (try dsimp only at hSw); go_simp; (try with_reducible rfl))
    rotate_left
    simp only [Act.put, List.getElem_toArray, List.getElem_cons_zero, List.getElem_cons_succ, List.setIfInBounds_toArray, List.set_cons_zero, List.set_cons_succ]
    refine wpAnyH_take (i := 5) (oi := _) (v := ?_) rfl (by kernel_rfl) (by kernel_rfl) (by kernel_rfl) (fun _ _ _ h => h) (Or.inl ⟨by rfl, ?_⟩) hS ?_
    rotate_left
    · (intro w hSw; (try dsimp only at hSw); go_simp; (try with_reducible rfl))
    rotate_left
    simp only [Act.put, List.getElem_toArray, List.getElem_cons_zero, List.getElem_cons_succ, List.setIfInBounds_toArray, List.set_cons_zero, List.set_cons_succ]
    refine wpAnyH_take (i := 6) (oi := _) (v := ?_) rfl (by kernel_rfl) (by kernel_rfl) (by kernel_rfl) (fun _ _ _ h => h) (Or.inl ⟨by rfl, ?_⟩) hS ?_
    rotate_left
    · (intro w hSw; (try dsimp only at hSw); go_simp; (try with_reducible rfl))
    rotate_left
    simp only [Act.put, List.getElem_toArray, List.getElem_cons_zero, List.getElem_cons_succ, List.setIfInBounds_toArray, List.set_cons_zero, List.set_cons_succ]
    refine wpAnyH_take (i := 7) (oi := _) (v := ?_) rfl (by kernel_rfl) (by kernel_rfl) (by kernel_rfl) (fun _ _ _ h => h) (Or.inl ⟨by rfl, ?_⟩) hS ?_
    rotate_left
    · (intro w hSw; (try dsimp only at hSw); go_simp; (try with_reducible rfl))
    rotate_left
    simp only [Act.put, List.getElem_toArray, List.getElem_cons_zero, List.getElem_cons_succ, List.setIfInBounds_toArray, List.set_cons_zero, List.set_cons_succ]
    refine wpAnyH_take (i := 8) (oi := _) (v := ?_) rfl (by kernel_rfl) (by kernel_rfl) (by kernel_rfl) (fun _ _ _ h => h) (Or.inl ⟨by rfl, ?_⟩) hS ?_
    rotate_left
    · (intro w hSw; (try dsimp only at hSw); go_simp; (try with_reducible rfl))
    rotate_left
    simp only [Act.put, List.getElem_toArray, List.getElem_cons_zero, List.getElem_cons_succ, List.setIfInBounds_toArray, List.set_cons_zero, List.set_cons_succ]
    refine wpAnyH_take (i := 9) (oi := _) (v := ?_) rfl (by kernel_rfl) (by kernel_rfl) (by kernel_rfl) (fun _ _ _ h => h) (Or.inl ⟨by rfl, ?_⟩) hS ?_
    rotate_left
    · (intro w hSw; (try dsimp only at hSw); go_simp; (try with_reducible rfl))
    rotate_left
    simp only [Act.put, List.getElem_toArray, List.getElem_cons_zero, List.getElem_cons_succ, List.setIfInBounds_toArray, List.set_cons_zero, List.set_cons_succ]
    refine wpAnyH_take (i := 10) (oi := _) (v := ?_) rfl (by kernel_rfl) (by kernel_rfl) (by kernel_rfl) (fun _ _ _ h => h) (Or.inl ⟨by rfl, ?_⟩) hS ?_
    rotate_left
    · (intro w hSw; (try dsimp only at hSw); go_simp; (try with_reducible rfl))
    rotate_left
    simp only [Act.put, List.getElem_toArray, List.getElem_cons_zero, List.getElem_cons_succ, List.setIfInBounds_toArray, List.set_cons_zero, List.set_cons_succ]
    refine wpAnyH_take (i := 11) (oi := _) (v := ?_) rfl (by kernel_rfl) (by kernel_rfl) (by kernel_rfl) (fun _ _ _ h => h) (Or.inl ⟨by rfl, ?_⟩) hS ?_
    rotate_left
    · (intro w hSw; (try dsimp only at hSw); go_simp; (try with_reducible rfl))
    rotate_left
    simp only [Act.put, List.getElem_toArray, List.getElem_cons_zero, List.getElem_cons_succ, List.setIfInBounds_toArray, List.set_cons_zero, List.set_cons_succ]
    refine wpAnyH_take (i := 12) (oi := _) (v := ?_) rfl (by kernel_rfl) (by kernel_rfl) (by kernel_rfl) (fun _ _ _ h => h) (Or.inl ⟨by rfl, ?_⟩) hS ?_
    rotate_left
    · (intro w hSw; (try dsimp only at hSw); go_simp; (try with_reducible rfl))
    rotate_left
    simp only [Act.put, List.getElem_toArray, List.getElem_cons_zero, List.getElem_cons_succ, List.setIfInBounds_toArray, List.set_cons_zero, List.set_cons_succ]
    refine wpAnyH_take (i := 13) (oi := _) (v := ?_) rfl (by kernel_rfl) (by kernel_rfl) (by kernel_rfl) (fun _ _ _ h => h) (Or.inl ⟨by rfl, ?_⟩) hS ?_
    rotate_left
    · (intro w hSw; (try dsimp only at hSw); go_simp; (try with_reducible rfl))
    rotate_left
    simp only [Act.put, List.getElem_toArray, List.getElem_cons_zero, List.getElem_cons_succ, List.setIfInBounds_toArray, List.set_cons_zero, List.set_cons_succ]
    refine wpAnyH_take (i := 14) (oi := _) (v := ?_) rfl (by kernel_rfl) (by kernel_rfl) (by kernel_rfl) (fun _ _ _ h => h) (Or.inl ⟨by rfl, ?_⟩) hS ?_
    rotate_left
    · (intro w hSw; (try dsimp only at hSw); go_simp; (try with_reducible rfl))
    rotate_left
    simp only [Act.put, List.getElem_toArray, List.getElem_cons_zero, List.getElem_cons_succ, List.setIfInBounds_toArray, List.set_cons_zero, List.set_cons_succ]
    refine wpAnyH_take (i := 15) (oi := _) (v := ?_) rfl (by kernel_rfl) (by kernel_rfl) (by kernel_rfl) (fun _ _ _ h => h) (Or.inl ⟨by rfl, ?_⟩) hS ?_
    rotate_left
    · (intro w hSw; (try dsimp only at hSw); go_simp; (try with_reducible rfl))
    rotate_left
    simp only [Act.put, List.getElem_toArray, List.getElem_cons_zero, List.getElem_cons_succ, List.setIfInBounds_toArray, List.set_cons_zero, List.set_cons_succ]
    refine wpAnyH_take (i := 16) (oi := _) (v := ?_) rfl (by kernel_rfl) (by kernel_rfl) (by kernel_rfl) (fun _ _ _ h => h) (Or.inl ⟨by rfl, ?_⟩) hS ?_
    rotate_left
    · (intro w hSw; (try dsimp only at hSw); go_simp; (try with_reducible rfl))
    rotate_left
    simp only [Act.put, List.getElem_toArray, List.getElem_cons_zero, List.getElem_cons_succ, List.setIfInBounds_toArray, List.set_cons_zero, List.set_cons_succ]
    refine wpAnyH_take (i := 17) (oi := _) (v := ?_) rfl (by kernel_rfl) (by kernel_rfl) (by kernel_rfl) (fun _ _ _ h => h) (Or.inl ⟨by rfl, ?_⟩) hS ?_
    rotate_left
    · (intro w hSw; (try dsimp only at hSw); go_simp; (try with_reducible rfl))
    rotate_left
    simp only [Act.put, List.getElem_toArray, List.getElem_cons_zero, List.getElem_cons_succ, List.setIfInBounds_toArray, List.set_cons_zero, List.set_cons_succ]
    refine wpAnyH_take (i := 18) (oi := _) (v := ?_) rfl (by kernel_rfl) (by kernel_rfl) (by kernel_rfl) (fun _ _ _ h => h) (Or.inl ⟨by rfl, ?_⟩) hS ?_
    rotate_left
    · (intro w hSw; (try dsimp only at hSw); go_simp; (try with_reducible rfl))
    rotate_left
    simp only [Act.put, List.getElem_toArray, List.getElem_cons_zero, List.getElem_cons_succ, List.setIfInBounds_toArray, List.set_cons_zero, List.set_cons_succ]
    refine wpAnyH_take (i := 19) (oi := _) (v := ?_) rfl (by kernel_rfl) (by kernel_rfl) (by kernel_rfl) (fun _ _ _ h => h) (Or.inl ⟨by rfl, ?_⟩) hS ?_
    rotate_left
    · (intro w hSw; (try dsimp only at hSw); go_simp; (try with_reducible rfl))
    rotate_left
    simp only [Act.put, List.getElem_toArray, List.getElem_cons_zero, List.getElem_cons_succ, List.setIfInBounds_toArray, List.set_cons_zero, List.set_cons_succ]
    refine wpAnyH_take (i := 20) (oi := _) (v := ?_) rfl (by kernel_rfl) (by kernel_rfl) (by kernel_rfl) (fun _ _ _ h => h) (Or.inl ⟨by rfl, ?_⟩) hS ?_
    rotate_left
    · (intro w hSw; (try dsimp only at hSw); go_simp; (try with_reducible rfl))
    rotate_left
    simp only [Act.put, List.getElem_toArray, List.getElem_cons_zero, List.getElem_cons_succ, List.setIfInBounds_toArray, List.set_cons_zero, List.set_cons_succ]
    refine wpAnyH_take (i := 21) (oi := _) (v := ?_) rfl (by kernel_rfl) (by kernel_rfl) (by kernel_rfl) (fun _ _ _ h => h) (Or.inl ⟨by rfl, ?_⟩) hS ?_
    rotate_left
    · (intro w hSw; (try dsimp only at hSw); go_simp; (try with_reducible rfl))
    rotate_left
    simp only [Act.put, List.getElem_toArray, List.getElem_cons_zero, List.getElem_cons_succ, List.setIfInBounds_toArray, List.set_cons_zero, List.set_cons_succ]
    refine wpAnyH_take (i := 22) (oi := _) (v := ?_) rfl (by kernel_rfl) (by kernel_rfl) (by kernel_rfl) (fun _ _ _ h => h) (Or.inl ⟨by rfl, ?_⟩) hS ?_
    rotate_left
    · (intro w hSw; (try dsimp only at hSw); go_simp; (try with_reducible rfl))
    rotate_left
    simp only [Act.put, List.getElem_toArray, List.getElem_cons_zero, List.getElem_cons_succ, List.setIfInBounds_toArray, List.set_cons_zero, List.set_cons_succ]
    refine wpAnyH_take (i := 23) (oi := _) (v := ?_) rfl (by kernel_rfl) (by kernel_rfl) (by kernel_rfl) (fun _ _ _ h => h) (Or.inl ⟨by rfl, ?_⟩) hS ?_
    rotate_left
    · (intro w hSw; (try dsimp only at hSw); go_simp; (try with_reducible rfl))
    rotate_left
    simp only [Act.put, List.getElem_toArray, List.getElem_cons_zero, List.getElem_cons_succ, List.setIfInBounds_toArray, List.set_cons_zero, List.set_cons_succ]
    refine wpAnyH_take (i := 24) (oi := _) (v := ?_) rfl (by kernel_rfl) (by kernel_rfl) (by kernel_rfl) (fun _ _ _ h => h) (Or.inl ⟨by rfl, ?_⟩) hS ?_
    rotate_left
    · (intro w hSw; (try dsimp only at hSw); go_simp; (try with_reducible rfl))
    rotate_left
    simp only [Act.put, List.getElem_toArray, List.getElem_cons_zero, List.getElem_cons_succ, List.setIfInBounds_toArray, List.set_cons_zero, List.set_cons_succ]
    refine wpAnyH_take (i := 25) (oi := _) (v := ?_) rfl (by kernel_rfl) (by kernel_rfl) (by kernel_rfl) (fun _ _ _ h => h) (Or.inl ⟨by rfl, ?_⟩) hS ?_
    rotate_left
    · (intro w hSw; (try dsimp only at hSw); go_simp; (try with_reducible rfl))
    rotate_left
    simp only [Act.put, List.getElem_toArray, List.getElem_cons_zero, List.getElem_cons_succ, List.setIfInBounds_toArray, List.set_cons_zero, List.set_cons_succ]
    refine wpAnyH_take (i := 26) (oi := _) (v := ?_) rfl (by kernel_rfl) (by kernel_rfl) (by kernel_rfl) (fun _ _ _ h => h) (Or.inl ⟨by rfl, ?_⟩) hS ?_
    rotate_left
    · (intro w hSw; (try dsimp only at hSw); go_simp; (try with_reducible rfl))
    rotate_left
    simp only [Act.put, List.getElem_toArray, List.getElem_cons_zero, List.getElem_cons_succ, List.setIfInBounds_toArray, List.set_cons_zero, List.set_cons_succ]
    refine wpAnyH_take (i := 27) (oi := _) (v := ?_) rfl (by kernel_rfl) (by kernel_rfl) (by kernel_rfl) (fun _ _ _ h => h) (Or.inl ⟨by rfl, ?_⟩) hS ?_
    rotate_left
    · (intro w hSw; (try dsimp only at hSw); go_simp; (try with_reducible rfl))
    rotate_left
    simp only [Act.put, List.getElem_toArray, List.getElem_cons_zero, List.getElem_cons_succ, List.setIfInBounds_toArray, List.set_cons_zero, List.set_cons_succ]
    refine wpAnyH_take (i := 28) (oi := _) (v := ?_) rfl (by kernel_rfl) (by kernel_rfl) (by kernel_rfl) (fun _ _ _ h => h) (Or.inl ⟨by rfl, ?_⟩) hS ?_
    rotate_left
    · (intro w hSw; (try dsimp only at hSw); go_simp; (try with_reducible rfl))
    rotate_left
    simp only [Act.put, List.getElem_toArray, List.getElem_cons_zero, List.getElem_cons_succ, List.setIfInBounds_toArray, List.set_cons_zero, List.set_cons_succ]
    refine wpAnyH_take (i := 29) (oi := _) (v := ?_) rfl (by kernel_rfl) (by kernel_rfl) (by kernel_rfl) (fun _ _ _ h => h) (Or.inl ⟨by rfl, ?_⟩) hS ?_
    rotate_left
    · (intro w hSw; (try dsimp only at hSw); go_simp; (try with_reducible rfl))
    rotate_left
    simp only [Act.put, List.getElem_toArray, List.getElem_cons_zero, List.getElem_cons_succ, List.setIfInBounds_toArray, List.set_cons_zero, List.set_cons_succ]
    refine wpAnyH_take (i := 30) (oi := _) (v := ?_) rfl (by kernel_rfl) (by kernel_rfl) (by kernel_rfl) (fun _ _ _ h => h) (Or.inl ⟨by rfl, ?_⟩) hS ?_
    rotate_left
    · (intro w hSw; (try dsimp only at hSw); go_simp; (try with_reducible rfl))
    rotate_left
    simp only [Act.put, List.getElem_toArray, List.getElem_cons_zero, List.getElem_cons_succ, List.setIfInBounds_toArray, List.set_cons_zero, List.set_cons_succ]
    refine wpAnyH_take (i := 31) (oi := _) (v := ?_) rfl (by kernel_rfl) (by kernel_rfl) (by kernel_rfl) (fun _ _ _ h => h) (Or.inl ⟨by rfl, ?_⟩) hS ?_
    rotate_left
    · (intro w hSw; (try dsimp only at hSw); go_simp; (try with_reducible rfl))
    rotate_left
    simp only [Act.put, List.getElem_toArray, List.getElem_cons_zero, List.getElem_cons_succ, List.setIfInBounds_toArray, List.set_cons_zero, List.set_cons_succ]
    refine wpAnyH_take (i := 32) (oi := _) (v := ?_) rfl (by kernel_rfl) (by kernel_rfl) (by kernel_rfl) (fun _ _ _ h => h) (Or.inl ⟨by rfl, ?_⟩) hS ?_
    rotate_left
    · (intro w hSw; (try dsimp only at hSw); go_simp; (try with_reducible rfl))
    rotate_left
    simp only [Act.put, List.getElem_toArray, List.getElem_cons_zero, List.getElem_cons_succ, List.setIfInBounds_toArray, List.set_cons_zero, List.set_cons_succ]
    refine wpAnyH_take (i := 33) (oi := _) (v := ?_) rfl (by kernel_rfl) (by kernel_rfl) (by kernel_rfl) (fun _ _ _ h => h) (Or.inl ⟨by rfl, ?_⟩) hS ?_
    rotate_left
    · (intro w hSw; (try dsimp only at hSw); go_simp; (try with_reducible rfl))
    rotate_left
    simp only [Act.put, List.getElem_toArray, List.getElem_cons_zero, List.getElem_cons_succ, List.setIfInBounds_toArray, List.set_cons_zero, List.set_cons_succ]
    refine wpAnyH_take (i := 34) (oi := _) (v := ?_) rfl (by kernel_rfl) (by kernel_rfl) (by kernel_rfl) (fun _ _ _ h => h) (Or.inl ⟨by rfl, ?_⟩) hS ?_
    rotate_left
    · (intro w hSw; (try dsimp only at hSw); go_simp; (try with_reducible rfl))
    rotate_left
    simp only [Act.put, List.getElem_toArray, List.getElem_cons_zero, List.getElem_cons_succ, List.setIfInBounds_toArray, List.set_cons_zero, List.set_cons_succ]
    refine wpAnyH_take (i := 35) (oi := _) (v := ?_) rfl (by kernel_rfl) (by kernel_rfl) (by kernel_rfl) (fun _ _ _ h => h) (Or.inl ⟨by rfl, ?_⟩) hS ?_
    rotate_left
    · (intro w hSw; (try dsimp only at hSw); go_simp; (try with_reducible rfl))
    rotate_left
    simp only [Act.put, List.getElem_toArray, List.getElem_cons_zero, List.getElem_cons_succ, List.setIfInBounds_toArray, List.set_cons_zero, List.set_cons_succ]
    clear q9 q10 q11 q12 q13 q14 q15 hop
    refine wpAnyH_ready (rs := [1, 37]) (by kernel_rfl) (by simp) ?_
    refine AllReadyH.cons rfl (fun K hK => ?_) (AllReadyH.cons rfl (fun K hK => ?_) AllReadyH.nil)
    · rw [if_pos (by rfl)]
      go_simp
      have hgz : g < v.heap.size := block_lt_of_cell hS.2.2.2.1
      refine (N1.out _ _ hS.2.1).mono ?_
      rintro e v1 ⟨rfl, b5⟩
      have e5 := fun o => b5.cell (p := ⟨g, o, none⟩) hgz
      refine hK.out _ _ ⟨Ext.trans hS.1 b5, hS.2.1.below b5, hS.2.2.1.next b5, (e5 9).trans hS.2.2.2.1, (e5 10).trans hS.2.2.2.2.1, (e5 11).trans hS.2.2.2.2.2.1, (e5 12).trans hS.2.2.2.2.2.2.1, (e5 13).trans hS.2.2.2.2.2.2.2.1, (e5 14).trans hS.2.2.2.2.2.2.2.2.1, (e5 15).trans hS.2.2.2.2.2.2.2.2.2.1, (e5 16).trans hS.2.2.2.2.2.2.2.2.2.2⟩ (fun hS' => ?_)
      clear b5 e5 hgz
      clear hK K hS
      have hS := hS'
      clear hS'
      try simp only [Act.put, List.getElem_toArray, List.getElem_cons_zero, List.getElem_cons_succ, List.setIfInBounds_toArray, List.set_cons_zero, List.set_cons_succ]
      refine wpAnyH_ready (rs := [3, 37]) (by kernel_rfl) (by simp) ?_
      refine AllReadyH.cons rfl (fun K hK => ?_) (AllReadyH.cons rfl (fun K hK => ?_) AllReadyH.nil)
      · rw [if_pos (by rfl)]
        go_simp
        have hgz : g < v1.heap.size := block_lt_of_cell hS.2.2.2.1
        refine (N2.out _ _ hS.2.1).mono ?_
        rintro e v2 ⟨rfl, b5⟩
        have e5 := fun o => b5.cell (p := ⟨g, o, none⟩) hgz
        refine hK.out _ _ ⟨Ext.trans hS.1 b5, hS.2.1.below b5, hS.2.2.1.next b5, (e5 9).trans hS.2.2.2.1, (e5 10).trans hS.2.2.2.2.1, (e5 11).trans hS.2.2.2.2.2.1, (e5 12).trans hS.2.2.2.2.2.2.1, (e5 13).trans hS.2.2.2.2.2.2.2.1, (e5 14).trans hS.2.2.2.2.2.2.2.2.1, (e5 15).trans hS.2.2.2.2.2.2.2.2.2.1, (e5 16).trans hS.2.2.2.2.2.2.2.2.2.2⟩ (fun hS' => ?_)
        clear b5 e5 hgz
        clear hK K hS
        have hS := hS'
        clear hS'
        try simp only [Act.put, List.getElem_toArray, List.getElem_cons_zero, List.getElem_cons_succ, List.setIfInBounds_toArray, List.set_cons_zero, List.set_cons_succ]
        refine wpAnyH_take (i := 36) (oi := _) (v := ?_) rfl (by kernel_rfl) (by kernel_rfl) (by kernel_rfl) (fun _ _ _ h => h) (Or.inl ⟨by rfl, ?_⟩) hS ?_
        rotate_left
        · (intro w hSw; (try dsimp only at hSw); go_simp; (try with_reducible rfl))
        rotate_left
        simp only [Act.put, List.getElem_toArray, List.getElem_cons_zero, List.getElem_cons_succ, List.setIfInBounds_toArray, List.set_cons_zero, List.set_cons_succ]
        refine wpAnyH_ready (rs := [37]) (by kernel_rfl) (by simp) ?_
        refine AllReadyH.cons rfl (fun K hK => ?_) AllReadyH.nil
        rw [if_pos (by rfl)]
        go_simp
        have hgz : g < v2.heap.size := block_lt_of_cell hS.2.2.2.1
        obtain ⟨gx, hgx⟩ : ∃ gx : Nat, gx = v2.heap.size := ⟨_, rfl⟩
        have BX := BoxOf.new' v2 gx #[.int .u32 0, .int .u32 0, .int .i64 0, .int .i64 0, .int .i64 0, .int .i64 0, .int .i64 0, .int .i64 0, .int .i64 0, .bool false] 24 hgx
        have hgw : w.heap.size < gx := by rw [hgx]; exact hS.2.2.1.lt
        have hgg : g < gx := by rw [hgx]; exact hgz
        have e5 := fun o => (Ext.alloc (Below.refl v2.heap.size v2) (.cells #[.int .u32 0, .int .u32 0, .int .i64 0, .int .i64 0, .int .i64 0, .int .i64 0, .int .i64 0, .int .i64 0, .int .i64 0, .bool false] 24)).cell (p := ⟨g, o, none⟩) hgz
        refine hK.out _ _ ⟨Ext.alloc hS.1 _, hS.2.1.alloc _, hS.2.2.1.alloc _, (e5 9).trans hS.2.2.2.1, (e5 10).trans hS.2.2.2.2.1, (e5 11).trans hS.2.2.2.2.2.1, (e5 12).trans hS.2.2.2.2.2.2.1, (e5 13).trans hS.2.2.2.2.2.2.2.1, (e5 14).trans hS.2.2.2.2.2.2.2.2.1, (e5 15).trans hS.2.2.2.2.2.2.2.2.2.1, (e5 16).trans hS.2.2.2.2.2.2.2.2.2.2⟩ (fun hS' => ?_)
        rw [← hgx]
        clear hgx hgz e5
        clear hK K hS
        have hS := hS'
        clear hS'
        try simp only [Act.put, List.getElem_toArray, List.getElem_cons_zero, List.getElem_cons_succ, List.setIfInBounds_toArray, List.set_cons_zero, List.set_cons_succ]
        generalize v2.alloc (.cells #[.int .u32 0, .int .u32 0, .int .i64 0, .int .i64 0, .int .i64 0, .int .i64 0, .int .i64 0, .int .i64 0, .int .i64 0, .bool false] 24) = v3 at BX hS ⊢
        refine wpAnyH_ready (rs := [38]) (by kernel_rfl) (by simp) ?_
        refine AllReadyH.cons rfl (fun K hK => ?_) AllReadyH.nil
        rw [if_pos (by rfl)]
        refine wp_store_row 24 (.tmp 5) (.tmp 48) rfl gx #[.int .u32 (id : Int), .int .u32 (ev : Int), .int .i64 (m : Int), .int .i64 (c : Int), .int .i64 (r : Int), .int .i64 (l : Int), .int .i64 (me : Int), .int .i64 (lo : Int), .int .i64 (dn : Int), .bool op] rfl rfl 24 #[.int .u32 0, .int .u32 0, .int .i64 0, .int .i64 0, .int .i64 0, .int .i64 0, .int .i64 0, .int .i64 0, .int .i64 0, .bool false] BX (by kernel_rfl) rfl (by kernel_rfl) ?_
        have BY := BX.set #[.int .u32 (id : Int), .int .u32 (ev : Int), .int .i64 (m : Int), .int .i64 (c : Int), .int .i64 (r : Int), .int .i64 (l : Int), .int .i64 (me : Int), .int .i64 (lo : Int), .int .i64 (dn : Int), .bool op]
        have e5 := fun o => cell_other v3 gx #[.int .u32 (id : Int), .int .u32 (ev : Int), .int .i64 (m : Int), .int .i64 (c : Int), .int .i64 (r : Int), .int .i64 (l : Int), .int .i64 (me : Int), .int .i64 (lo : Int), .int .i64 (dn : Int), .bool op] (p := ⟨g, o, none⟩) (show g ≠ gx by omega)
        refine hK.out _ _ ⟨Ext.setRow hS.1 (by omega) _, hS.2.1.other (by omega) _, hS.2.2.1.other (by omega) _, (e5 9).trans hS.2.2.2.1, (e5 10).trans hS.2.2.2.2.1, (e5 11).trans hS.2.2.2.2.2.1, (e5 12).trans hS.2.2.2.2.2.2.1, (e5 13).trans hS.2.2.2.2.2.2.2.1, (e5 14).trans hS.2.2.2.2.2.2.2.2.1, (e5 15).trans hS.2.2.2.2.2.2.2.2.2.1, (e5 16).trans hS.2.2.2.2.2.2.2.2.2.2⟩ (fun hS' => ?_)
        clear e5
        clear hK K hS
        have hS := hS'
        clear hS'
        try simp only [Act.put, List.getElem_toArray, List.getElem_cons_zero, List.getElem_cons_succ, List.setIfInBounds_toArray, List.set_cons_zero, List.set_cons_succ]
        refine wpAnyH_done (by kernel_rfl) ?_ _
        go_wp2_with fail
        go_meet
        exact ⟨gx, rfl, hgw, BY, hS.2.2.1, hS.2.1, hS.1, hS.2.2.2.2.2.2.2.2.1, by omega⟩
      · rw [if_pos (by rfl)]
        go_simp
        have hgz : g < v1.heap.size := block_lt_of_cell hS.2.2.2.1
        obtain ⟨gx, hgx⟩ : ∃ gx : Nat, gx = v1.heap.size := ⟨_, rfl⟩
        have BX := BoxOf.new' v1 gx #[.int .u32 0, .int .u32 0, .int .i64 0, .int .i64 0, .int .i64 0, .int .i64 0, .int .i64 0, .int .i64 0, .int .i64 0, .bool false] 24 hgx
        have hgw : w.heap.size < gx := by rw [hgx]; exact hS.2.2.1.lt
        have hgg : g < gx := by rw [hgx]; exact hgz
        have e5 := fun o => (Ext.alloc (Below.refl v1.heap.size v1) (.cells #[.int .u32 0, .int .u32 0, .int .i64 0, .int .i64 0, .int .i64 0, .int .i64 0, .int .i64 0, .int .i64 0, .int .i64 0, .bool false] 24)).cell (p := ⟨g, o, none⟩) hgz
        refine hK.out _ _ ⟨Ext.alloc hS.1 _, hS.2.1.alloc _, hS.2.2.1.alloc _, (e5 9).trans hS.2.2.2.1, (e5 10).trans hS.2.2.2.2.1, (e5 11).trans hS.2.2.2.2.2.1, (e5 12).trans hS.2.2.2.2.2.2.1, (e5 13).trans hS.2.2.2.2.2.2.2.1, (e5 14).trans hS.2.2.2.2.2.2.2.2.1, (e5 15).trans hS.2.2.2.2.2.2.2.2.2.1, (e5 16).trans hS.2.2.2.2.2.2.2.2.2.2⟩ (fun hS' => ?_)
        rw [← hgx]
        clear hgx hgz e5
        clear hK K hS
        have hS := hS'
        clear hS'
        try simp only [Act.put, List.getElem_toArray, List.getElem_cons_zero, List.getElem_cons_succ, List.setIfInBounds_toArray, List.set_cons_zero, List.set_cons_succ]
        generalize v1.alloc (.cells #[.int .u32 0, .int .u32 0, .int .i64 0, .int .i64 0, .int .i64 0, .int .i64 0, .int .i64 0, .int .i64 0, .int .i64 0, .bool false] 24) = v4 at BX hS ⊢
        refine wpAnyH_ready (rs := [3]) (by kernel_rfl) (by simp) ?_
        refine AllReadyH.cons rfl (fun K hK => ?_) AllReadyH.nil
        rw [if_pos (by rfl)]
        go_simp
        have hgz : g < v4.heap.size := block_lt_of_cell hS.2.2.2.1
        refine (N2.out _ _ hS.2.1).mono ?_
        rintro e v5 ⟨rfl, b5⟩
        have e5 := fun o => b5.cell (p := ⟨g, o, none⟩) hgz
        have BX' := BX.next b5
        clear BX
        have BX := BX'
        clear BX'
        refine hK.out _ _ ⟨Ext.trans hS.1 b5, hS.2.1.below b5, hS.2.2.1.next b5, (e5 9).trans hS.2.2.2.1, (e5 10).trans hS.2.2.2.2.1, (e5 11).trans hS.2.2.2.2.2.1, (e5 12).trans hS.2.2.2.2.2.2.1, (e5 13).trans hS.2.2.2.2.2.2.2.1, (e5 14).trans hS.2.2.2.2.2.2.2.2.1, (e5 15).trans hS.2.2.2.2.2.2.2.2.2.1, (e5 16).trans hS.2.2.2.2.2.2.2.2.2.2⟩ (fun hS' => ?_)
        clear b5 e5 hgz
        clear hK K hS
        have hS := hS'
        clear hS'
        try simp only [Act.put, List.getElem_toArray, List.getElem_cons_zero, List.getElem_cons_succ, List.setIfInBounds_toArray, List.set_cons_zero, List.set_cons_succ]
        refine wpAnyH_take (i := 36) (oi := _) (v := ?_) rfl (by kernel_rfl) (by kernel_rfl) (by kernel_rfl) (fun _ _ _ h => h) (Or.inl ⟨by rfl, ?_⟩) hS ?_
        rotate_left
        · (intro w hSw; (try dsimp only at hSw); go_simp; (try with_reducible rfl))
        rotate_left
        simp only [Act.put, List.getElem_toArray, List.getElem_cons_zero, List.getElem_cons_succ, List.setIfInBounds_toArray, List.set_cons_zero, List.set_cons_succ]
        refine wpAnyH_ready (rs := [38]) (by kernel_rfl) (by simp) ?_
        refine AllReadyH.cons rfl (fun K hK => ?_) AllReadyH.nil
        rw [if_pos (by rfl)]
        refine wp_store_row 24 (.tmp 5) (.tmp 48) rfl gx #[.int .u32 (id : Int), .int .u32 (ev : Int), .int .i64 (m : Int), .int .i64 (c : Int), .int .i64 (r : Int), .int .i64 (l : Int), .int .i64 (me : Int), .int .i64 (lo : Int), .int .i64 (dn : Int), .bool op] rfl rfl 24 #[.int .u32 0, .int .u32 0, .int .i64 0, .int .i64 0, .int .i64 0, .int .i64 0, .int .i64 0, .int .i64 0, .int .i64 0, .bool false] BX (by kernel_rfl) rfl (by kernel_rfl) ?_
        have BY := BX.set #[.int .u32 (id : Int), .int .u32 (ev : Int), .int .i64 (m : Int), .int .i64 (c : Int), .int .i64 (r : Int), .int .i64 (l : Int), .int .i64 (me : Int), .int .i64 (lo : Int), .int .i64 (dn : Int), .bool op]
        have e5 := fun o => cell_other v5 gx #[.int .u32 (id : Int), .int .u32 (ev : Int), .int .i64 (m : Int), .int .i64 (c : Int), .int .i64 (r : Int), .int .i64 (l : Int), .int .i64 (me : Int), .int .i64 (lo : Int), .int .i64 (dn : Int), .bool op] (p := ⟨g, o, none⟩) (show g ≠ gx by omega)
        refine hK.out _ _ ⟨Ext.setRow hS.1 (by omega) _, hS.2.1.other (by omega) _, hS.2.2.1.other (by omega) _, (e5 9).trans hS.2.2.2.1, (e5 10).trans hS.2.2.2.2.1, (e5 11).trans hS.2.2.2.2.2.1, (e5 12).trans hS.2.2.2.2.2.2.1, (e5 13).trans hS.2.2.2.2.2.2.2.1, (e5 14).trans hS.2.2.2.2.2.2.2.2.1, (e5 15).trans hS.2.2.2.2.2.2.2.2.2.1, (e5 16).trans hS.2.2.2.2.2.2.2.2.2.2⟩ (fun hS' => ?_)
        clear e5
        clear hK K hS
        have hS := hS'
        clear hS'
        try simp only [Act.put, List.getElem_toArray, List.getElem_cons_zero, List.getElem_cons_succ, List.setIfInBounds_toArray, List.set_cons_zero, List.set_cons_succ]
        refine wpAnyH_done (by kernel_rfl) ?_ _
        go_wp2_with fail
        go_meet
        exact ⟨gx, rfl, hgw, BY, hS.2.2.1, hS.2.1, hS.1, hS.2.2.2.2.2.2.2.2.1, by omega⟩
    · rw [if_pos (by rfl)]
      go_simp
      have hgz : g < v.heap.size := block_lt_of_cell hS.2.2.2.1
      obtain ⟨gx, hgx⟩ : ∃ gx : Nat, gx = v.heap.size := ⟨_, rfl⟩
      have BX := BoxOf.new' v gx #[.int .u32 0, .int .u32 0, .int .i64 0, .int .i64 0, .int .i64 0, .int .i64 0, .int .i64 0, .int .i64 0, .int .i64 0, .bool false] 24 hgx
      have hgw : w.heap.size < gx := by rw [hgx]; exact hS.2.2.1.lt
      have hgg : g < gx := by rw [hgx]; exact hgz
      have e5 := fun o => (Ext.alloc (Below.refl v.heap.size v) (.cells #[.int .u32 0, .int .u32 0, .int .i64 0, .int .i64 0, .int .i64 0, .int .i64 0, .int .i64 0, .int .i64 0, .int .i64 0, .bool false] 24)).cell (p := ⟨g, o, none⟩) hgz
      refine hK.out _ _ ⟨Ext.alloc hS.1 _, hS.2.1.alloc _, hS.2.2.1.alloc _, (e5 9).trans hS.2.2.2.1, (e5 10).trans hS.2.2.2.2.1, (e5 11).trans hS.2.2.2.2.2.1, (e5 12).trans hS.2.2.2.2.2.2.1, (e5 13).trans hS.2.2.2.2.2.2.2.1, (e5 14).trans hS.2.2.2.2.2.2.2.2.1, (e5 15).trans hS.2.2.2.2.2.2.2.2.2.1, (e5 16).trans hS.2.2.2.2.2.2.2.2.2.2⟩ (fun hS' => ?_)
      rw [← hgx]
      clear hgx hgz e5
      clear hK K hS
      have hS := hS'
      clear hS'
      try simp only [Act.put, List.getElem_toArray, List.getElem_cons_zero, List.getElem_cons_succ, List.setIfInBounds_toArray, List.set_cons_zero, List.set_cons_succ]
      generalize v.alloc (.cells #[.int .u32 0, .int .u32 0, .int .i64 0, .int .i64 0, .int .i64 0, .int .i64 0, .int .i64 0, .int .i64 0, .int .i64 0, .bool false] 24) = v6 at BX hS ⊢
      refine wpAnyH_ready (rs := [1]) (by kernel_rfl) (by simp) ?_
      refine AllReadyH.cons rfl (fun K hK => ?_) AllReadyH.nil
      rw [if_pos (by rfl)]
      go_simp
      have hgz : g < v6.heap.size := block_lt_of_cell hS.2.2.2.1
      refine (N1.out _ _ hS.2.1).mono ?_
      rintro e v7 ⟨rfl, b5⟩
      have e5 := fun o => b5.cell (p := ⟨g, o, none⟩) hgz
      have BX' := BX.next b5
      clear BX
      have BX := BX'
      clear BX'
      refine hK.out _ _ ⟨Ext.trans hS.1 b5, hS.2.1.below b5, hS.2.2.1.next b5, (e5 9).trans hS.2.2.2.1, (e5 10).trans hS.2.2.2.2.1, (e5 11).trans hS.2.2.2.2.2.1, (e5 12).trans hS.2.2.2.2.2.2.1, (e5 13).trans hS.2.2.2.2.2.2.2.1, (e5 14).trans hS.2.2.2.2.2.2.2.2.1, (e5 15).trans hS.2.2.2.2.2.2.2.2.2.1, (e5 16).trans hS.2.2.2.2.2.2.2.2.2.2⟩ (fun hS' => ?_)
      clear b5 e5 hgz
      clear hK K hS
      have hS := hS'
      clear hS'
      try simp only [Act.put, List.getElem_toArray, List.getElem_cons_zero, List.getElem_cons_succ, List.setIfInBounds_toArray, List.set_cons_zero, List.set_cons_succ]
      refine wpAnyH_ready (rs := [3]) (by kernel_rfl) (by simp) ?_
      refine AllReadyH.cons rfl (fun K hK => ?_) AllReadyH.nil
      rw [if_pos (by rfl)]
      go_simp
      have hgz : g < v7.heap.size := block_lt_of_cell hS.2.2.2.1
      refine (N2.out _ _ hS.2.1).mono ?_
      rintro e v8 ⟨rfl, b5⟩
      have e5 := fun o => b5.cell (p := ⟨g, o, none⟩) hgz
      have BX' := BX.next b5
      clear BX
      have BX := BX'
      clear BX'
      refine hK.out _ _ ⟨Ext.trans hS.1 b5, hS.2.1.below b5, hS.2.2.1.next b5, (e5 9).trans hS.2.2.2.1, (e5 10).trans hS.2.2.2.2.1, (e5 11).trans hS.2.2.2.2.2.1, (e5 12).trans hS.2.2.2.2.2.2.1, (e5 13).trans hS.2.2.2.2.2.2.2.1, (e5 14).trans hS.2.2.2.2.2.2.2.2.1, (e5 15).trans hS.2.2.2.2.2.2.2.2.2.1, (e5 16).trans hS.2.2.2.2.2.2.2.2.2.2⟩ (fun hS' => ?_)
      clear b5 e5 hgz
      clear hK K hS
      have hS := hS'
      clear hS'
      try simp only [Act.put, List.getElem_toArray, List.getElem_cons_zero, List.getElem_cons_succ, List.setIfInBounds_toArray, List.set_cons_zero, List.set_cons_succ]
      refine wpAnyH_take (i := 36) (oi := _) (v := ?_) rfl (by kernel_rfl) (by kernel_rfl) (by kernel_rfl) (fun _ _ _ h => h) (Or.inl ⟨by rfl, ?_⟩) hS ?_
      rotate_left
      · (intro w hSw; (try dsimp only at hSw); go_simp; (try with_reducible rfl))
      rotate_left
      simp only [Act.put, List.getElem_toArray, List.getElem_cons_zero, List.getElem_cons_succ, List.setIfInBounds_toArray, List.set_cons_zero, List.set_cons_succ]
      refine wpAnyH_ready (rs := [38]) (by kernel_rfl) (by simp) ?_
      refine AllReadyH.cons rfl (fun K hK => ?_) AllReadyH.nil
      rw [if_pos (by rfl)]
      refine wp_store_row 24 (.tmp 5) (.tmp 48) rfl gx #[.int .u32 (id : Int), .int .u32 (ev : Int), .int .i64 (m : Int), .int .i64 (c : Int), .int .i64 (r : Int), .int .i64 (l : Int), .int .i64 (me : Int), .int .i64 (lo : Int), .int .i64 (dn : Int), .bool op] rfl rfl 24 #[.int .u32 0, .int .u32 0, .int .i64 0, .int .i64 0, .int .i64 0, .int .i64 0, .int .i64 0, .int .i64 0, .int .i64 0, .bool false] BX (by kernel_rfl) rfl (by kernel_rfl) ?_
      have BY := BX.set #[.int .u32 (id : Int), .int .u32 (ev : Int), .int .i64 (m : Int), .int .i64 (c : Int), .int .i64 (r : Int), .int .i64 (l : Int), .int .i64 (me : Int), .int .i64 (lo : Int), .int .i64 (dn : Int), .bool op]
      have e5 := fun o => cell_other v8 gx #[.int .u32 (id : Int), .int .u32 (ev : Int), .int .i64 (m : Int), .int .i64 (c : Int), .int .i64 (r : Int), .int .i64 (l : Int), .int .i64 (me : Int), .int .i64 (lo : Int), .int .i64 (dn : Int), .bool op] (p := ⟨g, o, none⟩) (show g ≠ gx by omega)
      refine hK.out _ _ ⟨Ext.setRow hS.1 (by omega) _, hS.2.1.other (by omega) _, hS.2.2.1.other (by omega) _, (e5 9).trans hS.2.2.2.1, (e5 10).trans hS.2.2.2.2.1, (e5 11).trans hS.2.2.2.2.2.1, (e5 12).trans hS.2.2.2.2.2.2.1, (e5 13).trans hS.2.2.2.2.2.2.2.1, (e5 14).trans hS.2.2.2.2.2.2.2.2.1, (e5 15).trans hS.2.2.2.2.2.2.2.2.2.1, (e5 16).trans hS.2.2.2.2.2.2.2.2.2.2⟩ (fun hS' => ?_)
      clear e5
      clear hK K hS
      have hS := hS'
      clear hS'
      try simp only [Act.put, List.getElem_toArray, List.getElem_cons_zero, List.getElem_cons_succ, List.setIfInBounds_toArray, List.set_cons_zero, List.set_cons_succ]
      refine wpAnyH_done (by kernel_rfl) ?_ _
      go_wp2_with fail
      go_meet
      exact ⟨gx, rfl, hgw, BY, hS.2.2.1, hS.2.1, hS.1, hS.2.2.2.2.2.2.2.2.1, by omega⟩
  case rest =>
    obtain ⟨gx, rfl, hgw, BY, BZ, hbc, t4, c14', hne'⟩ := hcut
    clear t2 hbL A2 c9 c10 c11 c12 c13 c14 c15 c16
    have x5 := BY.cell
    have f5 := BY.free
    go_upto_if 52 with fail
    go_cut [52] (fun _ wx => BoxOf wx gx #[.int .u32 (id : Int), .int .u32 (ev : Int), .int .i64 (m : Int), .int .i64 (c : Int), .int .i64 (r : Int), .int .i64 (l : Int), .int .i64 (me : Int), .int .i64 (lostI lo), .int .i64 (dn : Int), .bool op] 24 ∧ BoxOf wx w.heap.size #[.int .u32 0, .int .u32 0, .int .i64 0, .int .i64 0, .int .i64 0, .int .i64 0, .int .i64 0, .int .i64 0, .int .i64 0, .bool false] 24 ∧ Bs wx (some ⟨g, 0, none⟩) 128 L ∧ Below w.heap.size w wx)
    case first =>
      by_cases h255 : lo = 255
      · have e1 : ((lo : Int) == 255) = true := by rw [beq_iff_eq]; omega
        have HLO : Hid (lostI lo = -1) := Lib.hid (if_pos h255)
        clear h255
        go_wp2_with fail
        go_meet
        refine ⟨?_, BZ.setElse (by omega) _ _, hbc.setElse hne' _ _, Below.setCell (p := ⟨gx, 7, none⟩) t4 (by show w.heap.size ≤ gx; omega) _⟩
        rw [HLO.out]
        exact BY.setAt 7 _
      · have e1 : ((lo : Int) == 255) = false := by rw [beq_eq_false_iff_ne]; omega
        have HLO : Hid (lostI lo = (lo : Int)) := Lib.hid (if_neg h255)
        clear h255
        go_wp2_with fail
        go_meet
        refine ⟨?_, BZ, hbc, t4⟩
        rw [HLO.out]
        exact BY
    case rest =>
      obtain ⟨CY, CZ, hbc, t6⟩ := hcut
      clear x5 f5 BY BZ t4 c14'
      have x6 := CY.cell
      obtain ⟨i1, i2, i3, i4, i5, i6, i7, i8, i9, i10⟩ := I2
      rcases HR.out with ⟨hok, rfl, rfl⟩ | ⟨hok, hne, rfl, rfl⟩ | ⟨hok, heq, rfl, rfl⟩
      · have hm := rlmay_bad _ hok
        rw [lab_cells] at hm
        have HM := Lib.hid hm
        clear hok hm
        go_upto_region 7 with fail
        refine wp_region_held_drew (S := fun w' => Below w.heap.size w w' ∧ Bs w' (some ⟨g, 0, none⟩) 128 L ∧ BoxOf w' w.heap.size #[.int .u32 0, .int .u32 0, .int .i64 0, .int .i64 0, .int .i64 0, .int .i64 0, .int .i64 0, .int .i64 0, .int .i64 0, .bool false] 24 ∧ BoxOf w' gx #[.int .u32 (id : Int), .int .u32 (ev : Int), .int .i64 (m : Int), .int .i64 (c : Int), .int .i64 (r : Int), .int .i64 (l : Int), .int .i64 (me : Int), .int .i64 (lostI lo), .int .i64 (dn : Int), .bool op] 24 ∧ ∀ o, w'.cell? ⟨gx, o, none⟩ = #[.int .u32 (id : Int), .int .u32 (ev : Int), .int .i64 (m : Int), .int .i64 (c : Int), .int .i64 (r : Int), .int .i64 (l : Int), .int .i64 (me : Int), .int .i64 (lostI lo), .int .i64 (dn : Int), .bool op].toList[o]?) (by kernel_rfl) ⟨Ext.drew t6, hbc, CZ.drew, CY.drew, CY.drew.cell⟩ (fun hS => ?_)
        clear t6 hbc CZ CY
        refine wpAnyH_take (i := 0) (oi := _) (v := ?_) rfl (by kernel_rfl) (by kernel_rfl) (by kernel_rfl) (fun _ _ _ h => h) (Or.inl ⟨by rfl, ?_⟩) hS ?_
        rotate_left
        · (intro w hSw; (try dsimp only at hSw); go_simp; (try with_reducible rfl))
        rotate_left
        simp only [Act.put, List.getElem_toArray, List.getElem_cons_zero, List.getElem_cons_succ, List.setIfInBounds_toArray, List.set_cons_zero, List.set_cons_succ]
        refine wpAnyH_ready (rs := [1]) (by kernel_rfl) (by simp) ?_
        refine AllReadyH.cons rfl (fun K hK => ?_) AllReadyH.nil
        rw [if_pos (by rfl)]
        go_simp
        refine (HM.out _).mono ?_
        rintro e w7 ⟨rfl, b5⟩
        refine hK.out _ _ ⟨Ext.trans hS.1 b5, hS.2.1.below b5, hS.2.2.1.next b5, hS.2.2.2.1.next b5, (hS.2.2.2.1.next b5).cell⟩ (fun hS' => ?_)
        clear b5
        clear hK K hS
        have hS := hS'
        clear hS'
        try simp only [Act.put, List.getElem_toArray, List.getElem_cons_zero, List.getElem_cons_succ, List.setIfInBounds_toArray, List.set_cons_zero, List.set_cons_succ]
        refine wpAnyH_take (i := 2) (oi := _) (v := ?_) rfl (by kernel_rfl) (by kernel_rfl) (by kernel_rfl) (fun _ _ _ h => h) (Or.inl ⟨by rfl, ?_⟩) hS ?_
        rotate_left
        · (intro w hSw; (try dsimp only at hSw); go_simp; (try with_reducible rfl))
        rotate_left
        simp only [Act.put, List.getElem_toArray, List.getElem_cons_zero, List.getElem_cons_succ, List.setIfInBounds_toArray, List.set_cons_zero, List.set_cons_succ]
        refine wpAnyH_take (i := 3) (oi := _) (v := ?_) rfl (by kernel_rfl) (by kernel_rfl) (by kernel_rfl) (fun _ _ _ h => h) (Or.inl ⟨by rfl, ?_⟩) hS ?_
        rotate_left
        · (intro w hSw; (try dsimp only at hSw); go_simp; (try with_reducible rfl))
        rotate_left
        simp only [Act.put, List.getElem_toArray, List.getElem_cons_zero, List.getElem_cons_succ, List.setIfInBounds_toArray, List.set_cons_zero, List.set_cons_succ]
        refine wpAnyH_take (i := 4) (oi := _) (v := ?_) rfl (by kernel_rfl) (by kernel_rfl) (by kernel_rfl) (fun _ _ _ h => h) (Or.inr ⟨by rfl, ?_⟩) hS ?_
        rotate_left
        · rfl
        rotate_left
        simp only [Act.put, List.getElem_toArray, List.getElem_cons_zero, List.getElem_cons_succ, List.setIfInBounds_toArray, List.set_cons_zero, List.set_cons_succ]
        refine wpAnyH_take (i := 5) (oi := _) (v := ?_) rfl (by kernel_rfl) (by kernel_rfl) (by kernel_rfl) (fun _ _ _ h => h) (Or.inr ⟨by rfl, ?_⟩) hS ?_
        rotate_left
        · rfl
        rotate_left
        simp only [Act.put, List.getElem_toArray, List.getElem_cons_zero, List.getElem_cons_succ, List.setIfInBounds_toArray, List.set_cons_zero, List.set_cons_succ]
        refine wpAnyH_take (i := 6) (oi := _) (v := ?_) rfl (by kernel_rfl) (by kernel_rfl) (by kernel_rfl) (fun _ _ _ h => h) (Or.inr ⟨by rfl, ?_⟩) hS ?_
        rotate_left
        · rfl
        rotate_left
        simp only [Act.put, List.getElem_toArray, List.getElem_cons_zero, List.getElem_cons_succ, List.setIfInBounds_toArray, List.set_cons_zero, List.set_cons_succ]
        refine wpAnyH_take (i := 7) (oi := _) (v := ?_) rfl (by kernel_rfl) (by kernel_rfl) (by kernel_rfl) (fun _ _ _ h => h) (Or.inr ⟨by rfl, ?_⟩) hS ?_
        rotate_left
        · rfl
        rotate_left
        simp only [Act.put, List.getElem_toArray, List.getElem_cons_zero, List.getElem_cons_succ, List.setIfInBounds_toArray, List.set_cons_zero, List.set_cons_succ]
        refine wpAnyH_take (i := 8) (oi := _) (v := ?_) rfl (by kernel_rfl) (by kernel_rfl) (by kernel_rfl) (fun _ _ _ h => h) (Or.inr ⟨by rfl, ?_⟩) hS ?_
        rotate_left
        · rfl
        rotate_left
        simp only [Act.put, List.getElem_toArray, List.getElem_cons_zero, List.getElem_cons_succ, List.setIfInBounds_toArray, List.set_cons_zero, List.set_cons_succ]
        refine wpAnyH_take (i := 9) (oi := _) (v := ?_) rfl (by kernel_rfl) (by kernel_rfl) (by kernel_rfl) (fun _ _ _ h => h) (Or.inr ⟨by rfl, ?_⟩) hS ?_
        rotate_left
        · rfl
        rotate_left
        simp only [Act.put, List.getElem_toArray, List.getElem_cons_zero, List.getElem_cons_succ, List.setIfInBounds_toArray, List.set_cons_zero, List.set_cons_succ]
        refine wpAnyH_take (i := 10) (oi := _) (v := ?_) rfl (by kernel_rfl) (by kernel_rfl) (by kernel_rfl) (fun _ _ _ h => h) (Or.inl ⟨by rfl, ?_⟩) hS ?_
        rotate_left
        · (intro w hSw; (try dsimp only at hSw); go_simp; (try with_reducible rfl))
        rotate_left
        simp only [Act.put, List.getElem_toArray, List.getElem_cons_zero, List.getElem_cons_succ, List.setIfInBounds_toArray, List.set_cons_zero, List.set_cons_succ]
        refine wpAnyH_done (by kernel_rfl) ?_ _
        have t9 := hS.1
        have B := Lib.hid hS.2.2.1
        have x9 := hS.2.2.2.2
        clear hS
        go_wp2_with (refine wpList_store_rowTo rfl 24 (.tmp 2) (.tmp 65) rfl rfl w.heap.size #[.int .u32 0, .int .u32 0, .int .i64 0, .int .i64 0, .int .i64 0, .int .i64 0, .int .i64 0, .int .i64 0, .int .i64 0, .bool false] rfl rfl 24 #[.int .u32 0, .int .u32 0, .int .i64 0, .int .i64 0, .int .i64 0, .int .i64 0, .int .i64 0, .int .i64 0, .int .i64 0, .bool false] B.out (by kernel_rfl) rfl (by kernel_rfl) ?_)
        exact bodyPost_ret (v := .tuple #[.agg #[.int .u32 0, .int .u32 0, .int .i64 0, .int .i64 0, .int .i64 0, .int .i64 0, .int .i64 0, .int .i64 0, .int .i64 0, .bool false], .int .i64 90]) (Eq.trans (results_row2 (P := Try.prog) (fn := Try.f17) (p := 2) (u := 3) (ty := 24) rfl _ _ w.heap.size 24 #[.int .u32 0, .int .u32 0, .int .i64 0, .int .i64 0, .int .i64 0, .int .i64 0, .int .i64 0, .int .i64 0, .int .i64 0, .bool false] (0, 0) _ rfl (B.out.set _) Try.underlying24 rfl (by kernel_rfl)) rfl) rfl ⟨rfl, Ext.setRow t9 (Nat.le_refl _) _⟩
      all_goals
        have hm := rlmay_ok _ hok
        rw [lab_cells] at hm
        have HM := Lib.hid hm
        have HK := Lib.hid (rlblock_any id ev m c r l me lo dn op i1 i2 i3 i4 i5 i6 i7 i8 i9)
        clear hok hm
        go_upto_region 7 with fail
        refine wp_region_held_drew (S := fun w' => Below w.heap.size w w' ∧ Bs w' (some ⟨g, 0, none⟩) 128 L ∧ BoxOf w' w.heap.size #[.int .u32 0, .int .u32 0, .int .i64 0, .int .i64 0, .int .i64 0, .int .i64 0, .int .i64 0, .int .i64 0, .int .i64 0, .bool false] 24 ∧ BoxOf w' gx #[.int .u32 (id : Int), .int .u32 (ev : Int), .int .i64 (m : Int), .int .i64 (c : Int), .int .i64 (r : Int), .int .i64 (l : Int), .int .i64 (me : Int), .int .i64 (lostI lo), .int .i64 (dn : Int), .bool op] 24 ∧ ∀ o, w'.cell? ⟨gx, o, none⟩ = #[.int .u32 (id : Int), .int .u32 (ev : Int), .int .i64 (m : Int), .int .i64 (c : Int), .int .i64 (r : Int), .int .i64 (l : Int), .int .i64 (me : Int), .int .i64 (lostI lo), .int .i64 (dn : Int), .bool op].toList[o]?) (by kernel_rfl) ⟨Ext.drew t6, hbc, CZ.drew, CY.drew, CY.drew.cell⟩ (fun hS => ?_)
        clear t6 hbc CZ CY
        refine wpAnyH_take (i := 0) (oi := _) (v := ?_) rfl (by kernel_rfl) (by kernel_rfl) (by kernel_rfl) (fun _ _ _ h => h) (Or.inl ⟨by rfl, ?_⟩) hS ?_
        rotate_left
        · (intro w hSw; (try dsimp only at hSw); go_simp; (try with_reducible rfl))
        rotate_left
        simp only [Act.put, List.getElem_toArray, List.getElem_cons_zero, List.getElem_cons_succ, List.setIfInBounds_toArray, List.set_cons_zero, List.set_cons_succ]
        refine wpAnyH_ready (rs := [1]) (by kernel_rfl) (by simp) ?_
        refine AllReadyH.cons rfl (fun K hK => ?_) AllReadyH.nil
        rw [if_pos (by rfl)]
        go_simp
        refine (HM.out _).mono ?_
        rintro e w7 ⟨rfl, b5⟩
        refine hK.out _ _ ⟨Ext.trans hS.1 b5, hS.2.1.below b5, hS.2.2.1.next b5, hS.2.2.2.1.next b5, (hS.2.2.2.1.next b5).cell⟩ (fun hS' => ?_)
        clear b5
        clear hK K hS
        have hS := hS'
        clear hS'
        try simp only [Act.put, List.getElem_toArray, List.getElem_cons_zero, List.getElem_cons_succ, List.setIfInBounds_toArray, List.set_cons_zero, List.set_cons_succ]
        refine wpAnyH_take (i := 2) (oi := _) (v := ?_) rfl (by kernel_rfl) (by kernel_rfl) (by kernel_rfl) (fun _ _ _ h => h) (Or.inl ⟨by rfl, ?_⟩) hS ?_
        rotate_left
        · (intro w hSw; (try dsimp only at hSw); go_simp; (try with_reducible rfl))
        rotate_left
        simp only [Act.put, List.getElem_toArray, List.getElem_cons_zero, List.getElem_cons_succ, List.setIfInBounds_toArray, List.set_cons_zero, List.set_cons_succ]
        refine wpAnyH_take (i := 3) (oi := _) (v := ?_) rfl (by kernel_rfl) (by kernel_rfl) (by kernel_rfl) (fun _ _ _ h => h) (Or.inl ⟨by rfl, ?_⟩) hS ?_
        rotate_left
        · (intro w hSw; (try dsimp only at hSw); go_simp; (try with_reducible rfl))
        rotate_left
        simp only [Act.put, List.getElem_toArray, List.getElem_cons_zero, List.getElem_cons_succ, List.setIfInBounds_toArray, List.set_cons_zero, List.set_cons_succ]
        refine wpAnyH_take (i := 4) (oi := _) (v := ?_) rfl (by kernel_rfl) (by kernel_rfl) (by kernel_rfl) (fun _ _ _ h => h) (Or.inl ⟨by rfl, ?_⟩) hS ?_
        rotate_left
        · (intro w hSw; (try dsimp only at hSw); go_simp; (try with_reducible rfl))
        rotate_left
        simp only [Act.put, List.getElem_toArray, List.getElem_cons_zero, List.getElem_cons_succ, List.setIfInBounds_toArray, List.set_cons_zero, List.set_cons_succ]
        refine wpAnyH_take (i := 7) (oi := _) (v := ?_) rfl (by kernel_rfl) (by kernel_rfl) (by kernel_rfl) (fun _ _ _ h => h) (Or.inl ⟨by rfl, ?_⟩) hS ?_
        rotate_left
        · (intro w hSw; (try dsimp only at hSw); go_simp; (try with_reducible rfl))
        rotate_left
        simp only [Act.put, List.getElem_toArray, List.getElem_cons_zero, List.getElem_cons_succ, List.setIfInBounds_toArray, List.set_cons_zero, List.set_cons_succ]
        refine wpAnyH_take (i := 8) (oi := _) (v := ?_) rfl (by kernel_rfl) (by kernel_rfl) (by kernel_rfl) (fun _ _ _ h => h) (Or.inl ⟨by rfl, ?_⟩) hS ?_
        rotate_left
        · (intro w hSw; have sq := run_string_bs (P := Try.prog) 128 25 9 5 Try.underlying25 Try.underlying5 Try.underlying9 hSw.2.1; (try dsimp only at hSw); go_simp; (try with_reducible rfl))
        rotate_left
        simp only [Act.put, List.getElem_toArray, List.getElem_cons_zero, List.getElem_cons_succ, List.setIfInBounds_toArray, List.set_cons_zero, List.set_cons_succ]
        refine wpAnyH_ready (rs := [5]) (by kernel_rfl) (by simp) ?_
        refine AllReadyH.cons rfl (fun K hK => ?_) AllReadyH.nil
        rw [if_pos (by rfl)]
        go_simp
        refine (HK.out _).mono ?_
        rintro e w8 ⟨P, q8, rfl, hp, b6⟩
        refine hK.out _ _ ⟨Ext.trans hS.1 b6, hS.2.1.below b6, hS.2.2.1.next b6, hS.2.2.2.1.next b6, (hS.2.2.2.1.next b6).cell⟩ (fun hS' => ?_)
        have s1 := run_string_bs (P := Try.prog) q8 25 9 5 Try.underlying25 Try.underlying5 Try.underlying9 hp
        clear b6 hp
        clear hK K hS
        have hS := hS'
        clear hS'
        try simp only [Act.put, List.getElem_toArray, List.getElem_cons_zero, List.getElem_cons_succ, List.setIfInBounds_toArray, List.set_cons_zero, List.set_cons_succ]
        generalize labBlock id ev m c r l me lo dn op = SB at *
      · have hs : (!SB == L) = true := by simpa using hne
        refine wpAnyH_ready (rs := [6]) (by kernel_rfl) (by simp) ?_
        refine AllReadyH.cons rfl (fun K hK => ?_) AllReadyH.nil
        rw [if_pos (by rfl)]
        go_simp
        refine hK.out _ _ hS (fun hS' => ?_)
        clear hK K hS
        have hS := hS'
        clear hS'
        try simp only [Act.put, List.getElem_toArray, List.getElem_cons_zero, List.getElem_cons_succ, List.setIfInBounds_toArray, List.set_cons_zero, List.set_cons_succ]
        refine wpAnyH_take (i := 9) (oi := _) (v := ?_) rfl (by kernel_rfl) (by kernel_rfl) (by kernel_rfl) (fun _ _ _ h => h) (Or.inl ⟨by rfl, ?_⟩) hS ?_
        rotate_left
        · (intro w hSw; (try dsimp only at hSw); go_simp; (try with_reducible rfl))
        rotate_left
        simp only [Act.put, List.getElem_toArray, List.getElem_cons_zero, List.getElem_cons_succ, List.setIfInBounds_toArray, List.set_cons_zero, List.set_cons_succ]
        refine wpAnyH_take (i := 10) (oi := _) (v := ?_) rfl (by kernel_rfl) (by kernel_rfl) (by kernel_rfl) (fun _ _ _ h => h) (Or.inl ⟨by rfl, ?_⟩) hS ?_
        rotate_left
        · (intro w hSw; (try dsimp only at hSw); go_simp; (try with_reducible rfl))
        rotate_left
        simp only [Act.put, List.getElem_toArray, List.getElem_cons_zero, List.getElem_cons_succ, List.setIfInBounds_toArray, List.set_cons_zero, List.set_cons_succ]
        refine wpAnyH_done (by kernel_rfl) ?_ _
        have t9 := hS.1
        have B := Lib.hid hS.2.2.1
        have x9 := hS.2.2.2.2
        clear hS
        go_wp2_with (refine wpList_store_rowTo rfl 24 (.tmp 2) (.tmp 65) rfl rfl w.heap.size #[.int .u32 0, .int .u32 0, .int .i64 0, .int .i64 0, .int .i64 0, .int .i64 0, .int .i64 0, .int .i64 0, .int .i64 0, .bool false] rfl rfl 24 #[.int .u32 0, .int .u32 0, .int .i64 0, .int .i64 0, .int .i64 0, .int .i64 0, .int .i64 0, .int .i64 0, .int .i64 0, .bool false] B.out (by kernel_rfl) rfl (by kernel_rfl) ?_)
        exact bodyPost_ret (v := .tuple #[.agg #[.int .u32 0, .int .u32 0, .int .i64 0, .int .i64 0, .int .i64 0, .int .i64 0, .int .i64 0, .int .i64 0, .int .i64 0, .bool false], .int .i64 90]) (Eq.trans (results_row2 (P := Try.prog) (fn := Try.f17) (p := 2) (u := 3) (ty := 24) rfl _ _ w.heap.size 24 #[.int .u32 0, .int .u32 0, .int .i64 0, .int .i64 0, .int .i64 0, .int .i64 0, .int .i64 0, .int .i64 0, .int .i64 0, .bool false] (0, 0) _ rfl (B.out.set _) Try.underlying24 rfl (by kernel_rfl)) rfl) rfl ⟨rfl, Ext.setRow t9 (Nat.le_refl _) _⟩
      · subst heq
        refine wpAnyH_ready (rs := [6]) (by kernel_rfl) (by simp) ?_
        refine AllReadyH.cons rfl (fun K hK => ?_) AllReadyH.nil
        rw [if_pos (by rfl)]
        go_simp
        refine hK.out _ _ hS (fun hS' => ?_)
        clear hK K hS
        have hS := hS'
        clear hS'
        try simp only [Act.put, List.getElem_toArray, List.getElem_cons_zero, List.getElem_cons_succ, List.setIfInBounds_toArray, List.set_cons_zero, List.set_cons_succ]
        refine wpAnyH_take (i := 9) (oi := _) (v := ?_) rfl (by kernel_rfl) (by kernel_rfl) (by kernel_rfl) (fun _ _ _ h => h) (Or.inl ⟨by rfl, ?_⟩) hS ?_
        rotate_left
        · (intro w hSw; (try dsimp only at hSw); go_simp; (try with_reducible rfl))
        rotate_left
        simp only [Act.put, List.getElem_toArray, List.getElem_cons_zero, List.getElem_cons_succ, List.setIfInBounds_toArray, List.set_cons_zero, List.set_cons_succ]
        refine wpAnyH_take (i := 10) (oi := _) (v := ?_) rfl (by kernel_rfl) (by kernel_rfl) (by kernel_rfl) (fun _ _ _ h => h) (Or.inl ⟨by rfl, ?_⟩) hS ?_
        rotate_left
        · (intro w hSw; (try dsimp only at hSw); go_simp; (try with_reducible rfl))
        rotate_left
        simp only [Act.put, List.getElem_toArray, List.getElem_cons_zero, List.getElem_cons_succ, List.setIfInBounds_toArray, List.set_cons_zero, List.set_cons_succ]
        refine wpAnyH_done (by kernel_rfl) ?_ _
        have t9 := hS.1
        have B := Lib.hid hS.2.2.1
        have x9 := hS.2.2.2.2
        clear hS
        go_wp2_with (refine wpList_store_rowTo rfl 24 (.tmp 2) (.tmp 66) rfl rfl w.heap.size #[.int .u32 (id : Int), .int .u32 (ev : Int), .int .i64 (m : Int), .int .i64 (c : Int), .int .i64 (r : Int), .int .i64 (l : Int), .int .i64 (me : Int), .int .i64 (lostI lo), .int .i64 (dn : Int), .bool op] rfl rfl 24 #[.int .u32 0, .int .u32 0, .int .i64 0, .int .i64 0, .int .i64 0, .int .i64 0, .int .i64 0, .int .i64 0, .int .i64 0, .bool false] B.out (by kernel_rfl) rfl (by kernel_rfl) ?_)
        exact bodyPost_ret (v := .tuple #[.agg #[.int .u32 (id : Int), .int .u32 (ev : Int), .int .i64 (m : Int), .int .i64 (c : Int), .int .i64 (r : Int), .int .i64 (l : Int), .int .i64 (me : Int), .int .i64 (lostI lo), .int .i64 (dn : Int), .bool op], .int .i64 0]) (Eq.trans (results_row2 (P := Try.prog) (fn := Try.f17) (p := 2) (u := 3) (ty := 24) rfl _ _ w.heap.size 24 #[.int .u32 (id : Int), .int .u32 (ev : Int), .int .i64 (m : Int), .int .i64 (c : Int), .int .i64 (r : Int), .int .i64 (l : Int), .int .i64 (me : Int), .int .i64 (lostI lo), .int .i64 (dn : Int), .bool op] (0, 0) _ rfl (B.out.set _) Try.underlying24 rfl (by kernel_rfl)) rfl) rfl ⟨rfl, Ext.setRow t9 (Nat.le_refl _) _⟩

theorem lab_whole {id ev m c r l me lo dn : Nat} {op : Bool} {bs : List UInt8} (h : labBlock id ev m c r l me lo dn op = wholeL bs) : labBlock id ev m c r l me lo dn op = bs := by
  unfold wholeL at h
  split at h
  · exfalso
    have h1 : (labBlock id ev m c r l me lo dn op).getD 0 0 = zeros.getD 0 0 := by rw [h]
    unfold labBlock rowsBlock at h1
    rw [sealL_getD _ (pad_len (by rw [bytesL_len, labRows_size]; decide)) 0 (by decide), pad_getD, zeros_getD] at h1
    exact absurd h1 (by show ((76 : UInt8) = 0) → False; decide)
  · exact h
theorem rlread_block (A : Option Addr) (n q : Nat) (bs : List UInt8) (hn : n = 0 ∨ n = 128) (w : World) (hb : Bs w A n bs) :
    (∃ id ev m c r l me lo dn op, LabIs bs id ev m c r l me lo dn op ∧ Calls Try.prog 17 #[.slice A n q] w fun e w' => e = .returned (.tuple #[.agg #[.int .u32 (id : Int), .int .u32 (ev : Int), .int .i64 (m : Int), .int .i64 (c : Int), .int .i64 (r : Int), .int .i64 (l : Int), .int .i64 (me : Int), .int .i64 (lostI lo), .int .i64 (dn : Int), .bool op], .int .i64 0]) ∧ Below w.heap.size w w') ∨
    ((∀ id ev m c r l me lo dn op, ¬ LabIs bs id ev m c r l me lo dn op) ∧ Calls Try.prog 17 #[.slice A n q] w fun e w' => e = .returned (.tuple #[.agg #[.int .u32 0, .int .u32 0, .int .i64 0, .int .i64 0, .int .i64 0, .int .i64 0, .int .i64 0, .int .i64 0, .int .i64 0, .bool false], .int .i64 90]) ∧ Below w.heap.size w w') := by
  have core := fun R C hR => rlread_core A n q bs hn (wholeL bs) rfl w hb (takeN (wholeL bs) 1 4) (takeN (wholeL bs) 5 4) (takeN (wholeL bs) 9 1) (takeN (wholeL bs) 10 1) (takeN (wholeL bs) 11 1) (takeN (wholeL bs) 12 1) (takeN (wholeL bs) 13 1) (takeN (wholeL bs) 14 1) (takeN (wholeL bs) 15 1) (takeN (wholeL bs) 16 1) _ rfl rfl rfl rfl rfl rfl rfl rfl rfl rfl rfl R C hR
  by_cases hok : (lab (takeN (wholeL bs) 1 4) (takeN (wholeL bs) 5 4) (takeN (wholeL bs) 9 1) (takeN (wholeL bs) 10 1) (takeN (wholeL bs) 11 1) (takeN (wholeL bs) 12 1) (takeN (wholeL bs) 13 1) (takeN (wholeL bs) 14 1) (takeN (wholeL bs) 15 1) (((takeN (wholeL bs) 16 1 : Nat) : Int) == 1)).Ok
  · by_cases hbs : labBlock (takeN (wholeL bs) 1 4) (takeN (wholeL bs) 5 4) (takeN (wholeL bs) 9 1) (takeN (wholeL bs) 10 1) (takeN (wholeL bs) 11 1) (takeN (wholeL bs) 12 1) (takeN (wholeL bs) 13 1) (takeN (wholeL bs) 14 1) (takeN (wholeL bs) 15 1) (((takeN (wholeL bs) 16 1 : Nat) : Int) == 1) = wholeL bs
    · exact .inl ⟨_, _, _, _, _, _, _, _, _, _, ⟨rfl, rfl, rfl, rfl, rfl, rfl, rfl, rfl, rfl, rfl, hok, lab_whole hbs⟩, core _ _ (.inr (.inr ⟨hok, hbs, rfl, rfl⟩))⟩
    · refine .inr ⟨?_, core _ _ (.inr (.inl ⟨hok, hbs, rfl, rfl⟩))⟩
      rintro i1 i2 i3 i4 i5 i6 i7 i8 i9 i10 ⟨rfl, rfl, rfl, rfl, rfl, rfl, rfl, rfl, rfl, rfl, _, h⟩
      refine hbs (h.trans ?_)
      have hl : bs.length = 128 := by rw [← h]; exact labBlock_len _ _ _ _ _ _ _ _ _ _
      exact (wholeL_full hl).symm
  · refine .inr ⟨?_, core _ _ (.inl ⟨hok, rfl, rfl⟩)⟩
    rintro i1 i2 i3 i4 i5 i6 i7 i8 i9 i10 ⟨rfl, rfl, rfl, rfl, rfl, rfl, rfl, rfl, rfl, rfl, h, _⟩
    exact hok h
theorem rlread_yes {n : Nat} {bs : List UInt8} {id ev m c r l me lo dn : Nat} {op : Bool} (h : LabIs bs id ev m c r l me lo dn op) (A : Option Addr) (q : Nat) (w : World) (hb : Bs w A n bs) :
    Calls Try.prog 17 #[.slice A n q] w fun e w' => e = .returned (.tuple #[.agg #[.int .u32 (id : Int), .int .u32 (ev : Int), .int .i64 (m : Int), .int .i64 (c : Int), .int .i64 (r : Int), .int .i64 (l : Int), .int .i64 (me : Int), .int .i64 (lostI lo), .int .i64 (dn : Int), .bool op], .int .i64 0]) ∧ Below w.heap.size w w' := by
  have hn : n = 128 := by rw [← hb.1]; exact lab_len h
  rcases rlread_block A n q bs (.inr hn) w hb with ⟨i1, i2, i3, i4, i5, i6, i7, i8, i9, i10, hr, hc⟩ | ⟨hno, _⟩
  · obtain ⟨rfl, rfl, rfl, rfl, rfl, rfl, rfl, rfl, rfl, rfl⟩ := lab_one hr h
    exact hc
  · exact absurd h (hno _ _ _ _ _ _ _ _ _ _)
theorem rlread_no {n : Nat} {bs : List UInt8} (hn : n = 0 ∨ n = 128) (h : ∀ id ev m c r l me lo dn op, ¬ LabIs bs id ev m c r l me lo dn op) (A : Option Addr) (q : Nat) (w : World) (hb : Bs w A n bs) :
    Calls Try.prog 17 #[.slice A n q] w fun e w' => e = .returned (.tuple #[.agg #[.int .u32 0, .int .u32 0, .int .i64 0, .int .i64 0, .int .i64 0, .int .i64 0, .int .i64 0, .int .i64 0, .int .i64 0, .bool false], .int .i64 90]) ∧ Below w.heap.size w w' := by
  rcases rlread_block A n q bs hn w hb with ⟨i1, i2, i3, i4, i5, i6, i7, i8, i9, i10, hr, hc⟩ | ⟨_, hc⟩
  · exact absurd hr (h _ _ _ _ _ _ _ _ _ _)
  · exact hc
end Go.Proofs.Ytiomgjfiiibllaa
